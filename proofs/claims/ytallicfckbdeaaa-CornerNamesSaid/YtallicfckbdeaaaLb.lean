/- Whether a market is valid (Try.func44); what is asked of a market with a truth: plain. -/
import Derived.Test.YtallicfckbdeaaaKb
import Derived.Test.YtallicfckbdeaaaGIa
import Derived.Test.YtallicfckbdeaaaGHf
import Derived.Test.YtallicfckbdeaaaGIe
import Derived.Test.YtallicfckbdeaaaXa
import Derived.Test.YtallicfckbdeaaaGTy
import Derived.Test.YtallicfckbdeaaaGTs
namespace Go.Proofs.Ytallicfckbdeaaa
open Go Go.RowKit Go.Tl
set_option linter.unusedVariables false
set_option linter.unusedSimpArgs false
set_option maxRecDepth 100000
set_option maxHeartbeats 4000000
theorem acall_nil2 {P : Program} {g : Nat} {cp : Bool} {f : Nat → List Tr} {x : AV} {args : List AV} {hc : List Ent} {Q : AV → List Ent → Prop} (C : ACall P g (x :: .t (.sl cp 1 0 f) :: args) hc Q) : ACall P g (x :: .v (.slice none 0 0) :: args) hc Q := fun w S vs h1 h2 h3 => by
  obtain ⟨v0, us0, rfl, hv0, h3'⟩ := rels1 h3
  obtain ⟨u, us, rfl, hu, h4⟩ := rels1 h3'
  have eu := hu.lit_inv
  subst eu
  exact C w S _ h1 h2 (.cons hv0 (.cons (.t (.sl (fun _ _ => .int .i64 0) (fun _ => Nat.le_refl _) (fun k hk => absurd hk (Nat.not_lt_zero _)) (fun k hk => absurd hk (Nat.not_lt_zero _)) (fun k j x hk => absurd hk (Nat.not_lt_zero _)))) h4))
theorem asked_yes {m : MktD} (hf : faultN m = 0) (h : possB m = true) : askedR m = ((lowN m, highN m), 0) := by
  have hv := vmkt hf
  unfold askedR
  rw [if_neg (fun c => c hf), if_pos (by rw [has_poss hv]; exact h), bnd_eq (poss_ne hv h)]
theorem asked_no {m : MktD} (hf : faultN m = 0) (h : possB m = false) : askedR m = ((0, 0), 9) := by
  have hv := vmkt hf
  unfold askedR
  rw [if_neg (fun c => c hf), if_neg (by rw [has_poss hv, h]; simp)]
attribute [local irreducible] AWP AWL AOp PV LV AWT AWE
theorem ready_p (m : MktD) (hl : m.hou.length ≤ 9223372036854775807) (hc : m.con.length ≤ 9223372036854775807) : PCall Try.prog 44 [mktA false false m] (fun x => x = boolA (decide (faultN m = 0))) := by
  refine acall_of_awp T0 Try.func44 rfl rfl rfl ?_
  have hT : ∀ r, (decide (m.hou.length ≤ 9) && decide (m.con.length ≤ 11) && decide (([] : List Int).length ≤ 9)) = r → ACall Try.prog 17 [mktA false false m, .v (.slice none 0 0)] [] (fun x h' => x = boolA r ∧ h' = []) := fun r hr =>
    acall_nil2 (cp := false) (f := fun k => [.sc (.int .i64 (([] : List Int).getD k 0))]) (thin_q (ct := false) (m := m) (t := []) hl hc (by simp) hr)
  cases hth : (decide (m.hou.length ≤ 9) && decide (m.con.length ≤ 11) && decide (([] : List Int).length ≤ 9))
  · have hf : decide (faultN m = 0) = false := decide_eq_false fun h => by
      have hv := vmkt h
      have h1 := hv.len
      have h2 := hv.clen
      rw [decide_eq_true (by omega), decide_eq_true (by omega), decide_eq_true (by simp)] at hth
      cases hth
    rw [hf]
    repeat (first | refine awp_seq ?_ | refine awp_region_lit rfl ?_)
    refine awl_hw wtA (st_box rfl rfl raA (by first | assumption | (simp only [cellsA]; rfl)) rfl rfl ?_)
    intro g1
    repeat (first | refine awp_seq ?_ | refine awp_region_lit rfl ?_ | ((first | (show AWL _ _ _ (⟨_, .assign _, _, _, _, _⟩ :: _) _ _ _; refine awl_pw ?wtq (pv_assign rfl rfl) rfl rfl ?_) | (show AWL _ _ _ (⟨_, .load _ _, _, _, _, _⟩ :: _) _ _ _; refine awl_lw ?wtq (lv_cla T0 rfl rfl rfl rcA rfl) rfl rfl rfl ?_)); case wtq => exact wtA) | refine awl_nil ?_)
    refine awl_hw wtA (st_acall T0 (hT false hth) rfl rfl rfl rfl (by first | exact callee_lit | exact callee_v | exact callee_fn | assumption) rcA raA rfl (by first | ((repeat' (first | exact SubH.refl _ | apply SubH.cons | exact Pick.here | apply Pick.there)); all_goals fail) | fail) (fun _ _ => trivial) ?_)
    rintro r h' ⟨rfl, rfl⟩
    repeat (first | refine awp_ret ?_ | ((first | (show AWL _ _ _ (⟨_, .move _, _, _, _, _⟩ :: _) _ _ _; refine awl_pw ?wtq (pv_move rfl rfl) rfl rfl ?_) | (show AWL _ _ _ (⟨_, .assign _, _, _, _, _⟩ :: _) _ _ _; refine awl_pw ?wtq (pv_assign rfl rfl) rfl rfl ?_) | (show AWL _ _ _ (⟨_, .load _ _, _, _, _, _⟩ :: _) _ _ _; refine awl_lw ?wtq (lv_cla T0 rfl rfl rfl rcA rfl) rfl rfl rfl ?_) | (show AWL _ _ _ (⟨_, .pick _ _ _, _, _, _, _⟩ :: _) _ _ _; refine awl_pw ?wtq (pv_pick_f rfl rfl tfA rfl) rfl rfl ?_)); case wtq => exact wtA) | refine awl_sk (wf_some rfl rfl rfl rfl tfA) rfl rfl ?_ | refine awl_nil ?_)
    exact body_p (.cons rfl .nil) rfl
  · have h2 := hth
    rw [Bool.and_eq_true, Bool.and_eq_true, decide_eq_true_eq, decide_eq_true_eq] at h2
    have hF := lawfault_p m (by omega) (by omega)
    repeat (first | refine awp_seq ?_ | refine awp_region_lit rfl ?_)
    refine awl_hw wtA (st_box rfl rfl raA (by first | assumption | (simp only [cellsA]; rfl)) rfl rfl ?_)
    intro g1
    repeat (first | refine awp_seq ?_ | refine awp_region_lit rfl ?_ | ((first | (show AWL _ _ _ (⟨_, .assign _, _, _, _, _⟩ :: _) _ _ _; refine awl_pw ?wtq (pv_assign rfl rfl) rfl rfl ?_) | (show AWL _ _ _ (⟨_, .load _ _, _, _, _, _⟩ :: _) _ _ _; refine awl_lw ?wtq (lv_cla T0 rfl rfl rfl rcA rfl) rfl rfl rfl ?_)); case wtq => exact wtA) | refine awl_nil ?_)
    refine awl_hw wtA (st_acall T0 (hT true hth) rfl rfl rfl rfl (by first | exact callee_lit | exact callee_v | exact callee_fn | assumption) rcA raA rfl (by first | ((repeat' (first | exact SubH.refl _ | apply SubH.cons | exact Pick.here | apply Pick.there)); all_goals fail) | fail) (fun _ _ => trivial) ?_)
    rintro r h' ⟨rfl, rfl⟩
    repeat (first | ((first | (show AWL _ _ _ (⟨_, .move _, _, _, _, _⟩ :: _) _ _ _; refine awl_pw ?wtq (pv_move rfl rfl) rfl rfl ?_) | (show AWL _ _ _ (⟨_, .load _ _, _, _, _, _⟩ :: _) _ _ _; refine awl_lw ?wtq (lv_cla T0 rfl rfl rfl rcA rfl) rfl rfl rfl ?_)); case wtq => exact wtA))
    refine awl_hw wtA (st_call T0 (hF) rfl rfl rfl rfl (by first | exact callee_lit | exact callee_v | exact callee_fn | assumption) rcA raA rfl ?_)
    rintro _ rfl
    repeat (first | refine awp_ret ?_ | ((first | (show AWL _ _ _ (⟨_, .assign _, _, _, _, _⟩ :: _) _ _ _; refine awl_pw ?wtq (pv_assign rfl rfl) rfl rfl ?_) | (show AWL _ _ _ (⟨_, .binOp .eql _ _ _ _, _, _, _, _⟩ :: _) _ _ _; refine awl_pw ?wtq (pv_eql rfl rfl rfl) rfl rfl ?_) | (show AWL _ _ _ (⟨_, .pick _ _ _, _, _, _, _⟩ :: _) _ _ _; refine awl_pw ?wtq (pv_pick_t rfl rfl tfA rfl) rfl rfl ?_)); case wtq => exact wtA) | refine awl_nil ?_)
    exact body_p (.cons rfl .nil) rfl
theorem refshort_t (cp cc ct : Bool) {m : MktD} {t : List Int} {x : Int} (hv : VMkt m) (ht : truthB m t = true) (hx : shortT m t = x) : PCall Try.prog 33 [mktA cp cc m, .t (intsT ct t)] (fun r => r = intA x) := by
  have h := refshort_p cp cc ct m t hv ht
  rw [short_need (truth_iff.1 ht).1, hx] at h
  exact h
end Go.Proofs.Ytallicfckbdeaaa
