/- The reference's Play: plain, and its regions (Try.func27). -/
import Derived.Test.YteaoclpikdmkiaaZeOj
import Derived.Test.YteaoclpikdmkiaaTlw
import Derived.Test.YteaoclpikdmkiaaTy
import Derived.Test.YteaoclpikdmkiaaTz
import Derived.Test.YteaoclpikdmkiaaTv
namespace Go.Tl
open Go Go.RowKit Go.Proofs.Yteaoclpikdmkiaa
section
variable {P : Program} {N : Nat} {o : Oper} {md : Nat → Prop} {s : Slots} {h : List Ent} {K : Slots → List Ent → Prop}
theorem st_arrI (T : TT P) {t g k n : Nat} {x y : Operand} {v : Int} {T' : TypeId} {d d' : Nat → Int} {h' : List Ent} (ho : o.op = .store t x y) (hx : evA s x = some (.v (.pointer (some ⟨g, k, none⟩)))) (hy : evA s y = some (intA v))
    (ht : f2 T.siz t = some (1, false)) (hd : o.dst = none) (hp : Repl h (.cl g T' (arrI d n)) (.cl g T' (arrI d' n)) h') (hk : k < n) (hd' : ∀ q, q < n → d' q = if q = k then v else d q) (hmd : md g)
    (hK : K s h') : AOp P N o md s h K := aop_store T ho hx hy ht rfl rfl rfl hd hp (by rw [arrI_len]; omega) (arrI_set hk hd') hmd hK
theorem awp_cutX2 {P : Program} {N : Nat} {ro : Option Nat} {id id2 : Nat} {x y : Code} {Q Q' : Exit → Slots → List Ent → Prop} {s : Slots} {h : List Ent} (M : Slots → List Ent → Prop) (H1 : AWP P N ro x (blockQ id (cutQ M)) s h) (H2 : ∀ s' h', M s' h' → AWP P N ro y Q s' h') :
    AWP P N ro x (blockQ id (blockQ id2 (thenQ (AWP P N ro y Q) Q'))) s h := by
  have key : ∀ s1 h1, cutQ M .normal s1 h1 → AWP P N ro y Q s1 h1 := fun s1 h1 ⟨_, s', h', hs, hh, hM⟩ => awp_weak hs hh (H2 s' h' hM)
  refine awp_mono H1 fun e s1 h1 hb => ?_
  cases e with
  | normal => exact key _ _ hb
  | exit i =>
    have hb' : cond (Nat.beq i id) (cutQ M .normal s1 h1) (cutQ M (.exit i) s1 h1) := hb
    cases hc : Nat.beq i id
    · rw [hc] at hb'; exact absurd hb'.1 (by simp)
    · rw [hc] at hb'
      show cond (Nat.beq i id) (AWP P N ro y Q s1 h1) _
      rw [hc]
      exact key _ _ hb'
  | _ => exact absurd hb.1 (by simp)
end
end Go.Tl
namespace Go.Proofs.Yteaoclpikdmkiaa
open Go Go.RowKit Go.Tl
set_option linter.unusedVariables false
set_option linter.unusedSimpArgs false
set_option maxRecDepth 100000
set_option maxHeartbeats 4000000
attribute [local irreducible] AWP AWL AOp PV LV AWT AWE
section
variable {g2 g6 g10 g14 i j k : Nat} {cp : Bool} {p : PostD} {L L' : Nat → Int} {o x : OrdD} {best : Int} {b : Bool} {u5 u7 u8 u9 u11 u12 u13 : AV} {rest : List Ent}
abbrev rpS (g2 g6 g10 g14 : Nat) (u5 u7 u8 u9 u11 u12 u13 : AV) : Slots := [(2, .v (ptrV g2)), (5, u5), (6, .v (ptrV g6)), (7, u7), (8, u8), (9, u9), (10, .v (ptrV g10)), (11, u11), (12, u12), (13, u13), (14, .v (ptrV g14))]
abbrev rpH (g2 g6 g10 g14 : Nat) (cp : Bool) (p : PostD) (L : Nat → Int) (o x : OrdD) (rest : List Ent) : List Ent := .cl g14 58 (ordRow x) :: .cl g2 24 [.t (ordsT cp p.ords)] :: .cl g6 102 (arrI L 6) :: .cl g10 58 (ordRow o) :: rest
theorem rp_17 (hj : j < 6) (hL : 0 ≤ L j) (hb : (decide (0 < L j) && meetsB o x) = b) {ops : Array Oper} (h : regF Try.f27 17 = some ops) :
    AWP Try.prog Try.f27.ntmps none (.region 17 ops false) (cutQ (fun s h => s = (89, boolA (!b)) :: rpS g2 g6 g10 g14 u5 u7 u8 u9 u11 u12 (intA j) ∧ h = rpH g2 g6 g10 g14 cp p L o x rest))
      (rpS g2 g6 g10 g14 u5 u7 u8 u9 u11 u12 (intA j)) (rpH g2 g6 g10 g14 cp p L o x rest) := by
  cases h
  have r1 : (arrI L 6)[j]? = some (intA (L j)) := arrI_at hj
  obtain ⟨ob, ol, on, o1, o2⟩ := o
  obtain ⟨xb, xl, xn, x1, x2⟩ := x
  by_cases hLj : L j = 0
  · have e1 : decide (L j = 0) = true := decide_eq_true hLj
    have e2 : decide (0 < L j) = false := decide_eq_false (by omega)
    rw [e2, Bool.false_and] at hb
    subst hb
    cases ob <;> cases xb
    · repeat (first | refine awp_region_lit rfl ?_ | ((first | (show AWL _ _ _ (⟨_, .load _ _, _, _, _, _⟩ :: _) _ _ _; refine awl_lw ?wtq (lv_cl1 T0 rfl rfl rfl (by solve | repeat' constructor) (by first | rfl | assumption)) rfl rfl rfl ?_) | (show AWL _ _ _ (⟨_, .fieldAddr _ _ _, _, _, _, _⟩ :: _) _ _ _; refine awl_pw ?wtq (pv_fa T0 rfl rfl rfl (by simp; rfl)) rfl rfl ?_)); case wtq => first | exact wt_none rfl | exact wt_some' rfl rfl rfl rfl (by first | rfl | assumption | exact dT (by omega) | exact dF (by omega))))
      refine awl_pw (wt_none rfl) (pv_eqlb rfl rfl rfl Try.underlying4) rfl rfl ?_
      repeat (first | ((first | (show AWL _ _ _ (⟨_, .move _, _, _, _, _⟩ :: _) _ _ _; refine awl_pw ?wtq (pv_move rfl rfl) rfl rfl ?_) | (show AWL _ _ _ (⟨_, .fieldAddr _ _ _, _, _, _, _⟩ :: _) _ _ _; refine awl_pw ?wtq (pv_fa T0 rfl rfl rfl (by simp; rfl)) rfl rfl ?_) | (show AWL _ _ _ (⟨_, .pick _ _ _, _, _, _, _⟩ :: _) _ _ _; refine awl_pw ?wtq (pv_pick_t rfl rfl (by first | rfl | assumption | exact dT (by omega) | exact dF (by omega)) rfl) rfl rfl ?_)); case wtq => first | exact wt_none rfl | exact wt_some' rfl rfl rfl rfl (by first | rfl | assumption | exact dT (by omega) | exact dF (by omega))) | refine awl_sk (wf_some rfl rfl rfl rfl (by first | rfl | assumption | exact dT (by omega) | exact dF (by omega))) rfl rfl ?_ | refine awl_sku (wu_some rfl rfl rfl rfl) rfl rfl ?_ | refine awl_nil ?_)
      exact cut_n ⟨rfl, rfl⟩ (by first | ((repeat' (first | exact True.intro | refine ⟨rfl, ?_⟩)); all_goals fail) | fail) (SubH.refl _)
    · repeat (first | refine awp_region_lit rfl ?_ | ((first | (show AWL _ _ _ (⟨_, .load _ _, _, _, _, _⟩ :: _) _ _ _; refine awl_lw ?wtq (lv_cl1 T0 rfl rfl rfl (by solve | repeat' constructor) (by first | rfl | assumption)) rfl rfl rfl ?_) | (show AWL _ _ _ (⟨_, .fieldAddr _ _ _, _, _, _, _⟩ :: _) _ _ _; refine awl_pw ?wtq (pv_fa T0 rfl rfl rfl (by simp; rfl)) rfl rfl ?_)); case wtq => first | exact wt_none rfl | exact wt_some' rfl rfl rfl rfl (by first | rfl | assumption | exact dT (by omega) | exact dF (by omega))))
      refine awl_pw (wt_none rfl) (pv_eqlb rfl rfl rfl Try.underlying4) rfl rfl ?_
      repeat (first | ((first | (show AWL _ _ _ (⟨_, .move _, _, _, _, _⟩ :: _) _ _ _; refine awl_pw ?wtq (pv_move rfl rfl) rfl rfl ?_) | (show AWL _ _ _ (⟨_, .load _ _, _, _, _, _⟩ :: _) _ _ _; refine awl_lw ?wtq (lv_cl1 T0 rfl rfl rfl (by solve | repeat' constructor) (by first | rfl | assumption)) rfl rfl rfl ?_) | (show AWL _ _ _ (⟨_, .fieldAddr _ _ _, _, _, _, _⟩ :: _) _ _ _; refine awl_pw ?wtq (pv_fa T0 rfl rfl rfl (by simp; rfl)) rfl rfl ?_) | (show AWL _ _ _ (⟨_, .indexAddr _ _ _, _, _, _, _⟩ :: _) _ _ _; refine awl_pw ?wtq (pv_ix_arr T0 rfl rfl rfl rfl (by omega) (by simp; rfl)) rfl rfl ?_) | (show AWL _ _ _ (⟨_, .binOp .eql _ _ _ _, _, _, _, _⟩ :: _) _ _ _; refine awl_pw ?wtq (pv_eql rfl rfl rfl) rfl rfl ?_) | (show AWL _ _ _ (⟨_, .pick _ _ _, _, _, _, _⟩ :: _) _ _ _; refine awl_pw ?wtq (pv_pick_t rfl rfl (by first | rfl | assumption | exact dT (by omega) | exact dF (by omega)) rfl) rfl rfl ?_) | (show AWL _ _ _ (⟨_, .pick _ _ _, _, _, _, _⟩ :: _) _ _ _; refine awl_pw ?wtq (pv_pick_f rfl rfl (by first | rfl | assumption | exact dT (by omega) | exact dF (by omega)) rfl) rfl rfl ?_)); case wtq => first | exact wt_none rfl | exact wt_some' rfl rfl rfl rfl (by first | rfl | assumption | exact dT (by omega) | exact dF (by omega))) | refine awl_sk (wf_some rfl rfl rfl rfl (by first | rfl | assumption | exact dT (by omega) | exact dF (by omega))) rfl rfl ?_ | refine awl_sku (wu_some rfl rfl rfl rfl) rfl rfl ?_ | refine awl_nil ?_)
      exact cut_n ⟨rfl, rfl⟩ (by first | ((repeat' (first | exact True.intro | refine ⟨rfl, ?_⟩)); all_goals fail) | fail) (SubH.refl _)
    · repeat (first | refine awp_region_lit rfl ?_ | ((first | (show AWL _ _ _ (⟨_, .load _ _, _, _, _, _⟩ :: _) _ _ _; refine awl_lw ?wtq (lv_cl1 T0 rfl rfl rfl (by solve | repeat' constructor) (by first | rfl | assumption)) rfl rfl rfl ?_) | (show AWL _ _ _ (⟨_, .fieldAddr _ _ _, _, _, _, _⟩ :: _) _ _ _; refine awl_pw ?wtq (pv_fa T0 rfl rfl rfl (by simp; rfl)) rfl rfl ?_)); case wtq => first | exact wt_none rfl | exact wt_some' rfl rfl rfl rfl (by first | rfl | assumption | exact dT (by omega) | exact dF (by omega))))
      refine awl_pw (wt_none rfl) (pv_eqlb rfl rfl rfl Try.underlying4) rfl rfl ?_
      repeat (first | ((first | (show AWL _ _ _ (⟨_, .move _, _, _, _, _⟩ :: _) _ _ _; refine awl_pw ?wtq (pv_move rfl rfl) rfl rfl ?_) | (show AWL _ _ _ (⟨_, .load _ _, _, _, _, _⟩ :: _) _ _ _; refine awl_lw ?wtq (lv_cl1 T0 rfl rfl rfl (by solve | repeat' constructor) (by first | rfl | assumption)) rfl rfl rfl ?_) | (show AWL _ _ _ (⟨_, .fieldAddr _ _ _, _, _, _, _⟩ :: _) _ _ _; refine awl_pw ?wtq (pv_fa T0 rfl rfl rfl (by simp; rfl)) rfl rfl ?_) | (show AWL _ _ _ (⟨_, .indexAddr _ _ _, _, _, _, _⟩ :: _) _ _ _; refine awl_pw ?wtq (pv_ix_arr T0 rfl rfl rfl rfl (by omega) (by simp; rfl)) rfl rfl ?_) | (show AWL _ _ _ (⟨_, .binOp .eql _ _ _ _, _, _, _, _⟩ :: _) _ _ _; refine awl_pw ?wtq (pv_eql rfl rfl rfl) rfl rfl ?_) | (show AWL _ _ _ (⟨_, .pick _ _ _, _, _, _, _⟩ :: _) _ _ _; refine awl_pw ?wtq (pv_pick_t rfl rfl (by first | rfl | assumption | exact dT (by omega) | exact dF (by omega)) rfl) rfl rfl ?_) | (show AWL _ _ _ (⟨_, .pick _ _ _, _, _, _, _⟩ :: _) _ _ _; refine awl_pw ?wtq (pv_pick_f rfl rfl (by first | rfl | assumption | exact dT (by omega) | exact dF (by omega)) rfl) rfl rfl ?_)); case wtq => first | exact wt_none rfl | exact wt_some' rfl rfl rfl rfl (by first | rfl | assumption | exact dT (by omega) | exact dF (by omega))) | refine awl_sk (wf_some rfl rfl rfl rfl (by first | rfl | assumption | exact dT (by omega) | exact dF (by omega))) rfl rfl ?_ | refine awl_sku (wu_some rfl rfl rfl rfl) rfl rfl ?_ | refine awl_nil ?_)
      exact cut_n ⟨rfl, rfl⟩ (by first | ((repeat' (first | exact True.intro | refine ⟨rfl, ?_⟩)); all_goals fail) | fail) (SubH.refl _)
    · repeat (first | refine awp_region_lit rfl ?_ | ((first | (show AWL _ _ _ (⟨_, .load _ _, _, _, _, _⟩ :: _) _ _ _; refine awl_lw ?wtq (lv_cl1 T0 rfl rfl rfl (by solve | repeat' constructor) (by first | rfl | assumption)) rfl rfl rfl ?_) | (show AWL _ _ _ (⟨_, .fieldAddr _ _ _, _, _, _, _⟩ :: _) _ _ _; refine awl_pw ?wtq (pv_fa T0 rfl rfl rfl (by simp; rfl)) rfl rfl ?_)); case wtq => first | exact wt_none rfl | exact wt_some' rfl rfl rfl rfl (by first | rfl | assumption | exact dT (by omega) | exact dF (by omega))))
      refine awl_pw (wt_none rfl) (pv_eqlb rfl rfl rfl Try.underlying4) rfl rfl ?_
      repeat (first | ((first | (show AWL _ _ _ (⟨_, .move _, _, _, _, _⟩ :: _) _ _ _; refine awl_pw ?wtq (pv_move rfl rfl) rfl rfl ?_) | (show AWL _ _ _ (⟨_, .fieldAddr _ _ _, _, _, _, _⟩ :: _) _ _ _; refine awl_pw ?wtq (pv_fa T0 rfl rfl rfl (by simp; rfl)) rfl rfl ?_) | (show AWL _ _ _ (⟨_, .pick _ _ _, _, _, _, _⟩ :: _) _ _ _; refine awl_pw ?wtq (pv_pick_t rfl rfl (by first | rfl | assumption | exact dT (by omega) | exact dF (by omega)) rfl) rfl rfl ?_)); case wtq => first | exact wt_none rfl | exact wt_some' rfl rfl rfl rfl (by first | rfl | assumption | exact dT (by omega) | exact dF (by omega))) | refine awl_sk (wf_some rfl rfl rfl rfl (by first | rfl | assumption | exact dT (by omega) | exact dF (by omega))) rfl rfl ?_ | refine awl_sku (wu_some rfl rfl rfl rfl) rfl rfl ?_ | refine awl_nil ?_)
      exact cut_n ⟨rfl, rfl⟩ (by first | ((repeat' (first | exact True.intro | refine ⟨rfl, ?_⟩)); all_goals fail) | fail) (SubH.refl _)
  have e1 : decide (L j = 0) = false := decide_eq_false hLj
  have e2 : decide (0 < L j) = true := decide_eq_true (by omega)
  rw [e2, Bool.true_and] at hb
  cases ob <;> cases xb
  · obtain rfl : b = false := by rw [← hb]; rfl
    repeat (first | refine awp_region_lit rfl ?_ | ((first | (show AWL _ _ _ (⟨_, .load _ _, _, _, _, _⟩ :: _) _ _ _; refine awl_lw ?wtq (lv_cl1 T0 rfl rfl rfl (by solve | repeat' constructor) (by first | rfl | assumption)) rfl rfl rfl ?_) | (show AWL _ _ _ (⟨_, .fieldAddr _ _ _, _, _, _, _⟩ :: _) _ _ _; refine awl_pw ?wtq (pv_fa T0 rfl rfl rfl (by simp; rfl)) rfl rfl ?_)); case wtq => first | exact wt_none rfl | exact wt_some' rfl rfl rfl rfl (by first | rfl | assumption | exact dT (by omega) | exact dF (by omega))))
    refine awl_pw (wt_none rfl) (pv_eqlb rfl rfl rfl Try.underlying4) rfl rfl ?_
    repeat (first | ((first | (show AWL _ _ _ (⟨_, .move _, _, _, _, _⟩ :: _) _ _ _; refine awl_pw ?wtq (pv_move rfl rfl) rfl rfl ?_) | (show AWL _ _ _ (⟨_, .fieldAddr _ _ _, _, _, _, _⟩ :: _) _ _ _; refine awl_pw ?wtq (pv_fa T0 rfl rfl rfl (by simp; rfl)) rfl rfl ?_) | (show AWL _ _ _ (⟨_, .pick _ _ _, _, _, _, _⟩ :: _) _ _ _; refine awl_pw ?wtq (pv_pick_t rfl rfl (by first | rfl | assumption | exact dT (by omega) | exact dF (by omega)) rfl) rfl rfl ?_)); case wtq => first | exact wt_none rfl | exact wt_some' rfl rfl rfl rfl (by first | rfl | assumption | exact dT (by omega) | exact dF (by omega))) | refine awl_sk (wf_some rfl rfl rfl rfl (by first | rfl | assumption | exact dT (by omega) | exact dF (by omega))) rfl rfl ?_ | refine awl_sku (wu_some rfl rfl rfl rfl) rfl rfl ?_ | refine awl_nil ?_)
    exact cut_n ⟨rfl, rfl⟩ (by first | ((repeat' (first | exact True.intro | refine ⟨rfl, ?_⟩)); all_goals fail) | fail) (SubH.refl _)
  · by_cases hc : xl < ol
    · have d1 := decide_eq_true hc
      obtain rfl : b = false := by rw [← hb]; simp [meetsB]; omega
      repeat (first | refine awp_region_lit rfl ?_ | ((first | (show AWL _ _ _ (⟨_, .load _ _, _, _, _, _⟩ :: _) _ _ _; refine awl_lw ?wtq (lv_cl1 T0 rfl rfl rfl (by solve | repeat' constructor) (by first | rfl | assumption)) rfl rfl rfl ?_) | (show AWL _ _ _ (⟨_, .fieldAddr _ _ _, _, _, _, _⟩ :: _) _ _ _; refine awl_pw ?wtq (pv_fa T0 rfl rfl rfl (by simp; rfl)) rfl rfl ?_)); case wtq => first | exact wt_none rfl | exact wt_some' rfl rfl rfl rfl (by first | rfl | assumption | exact dT (by omega) | exact dF (by omega))))
      refine awl_pw (wt_none rfl) (pv_eqlb rfl rfl rfl Try.underlying4) rfl rfl ?_
      repeat (first | ((first | (show AWL _ _ _ (⟨_, .move _, _, _, _, _⟩ :: _) _ _ _; refine awl_pw ?wtq (pv_move rfl rfl) rfl rfl ?_) | (show AWL _ _ _ (⟨_, .load _ _, _, _, _, _⟩ :: _) _ _ _; refine awl_lw ?wtq (lv_cl1 T0 rfl rfl rfl (by solve | repeat' constructor) (by first | rfl | assumption)) rfl rfl rfl ?_) | (show AWL _ _ _ (⟨_, .fieldAddr _ _ _, _, _, _, _⟩ :: _) _ _ _; refine awl_pw ?wtq (pv_fa T0 rfl rfl rfl (by simp; rfl)) rfl rfl ?_) | (show AWL _ _ _ (⟨_, .indexAddr _ _ _, _, _, _, _⟩ :: _) _ _ _; refine awl_pw ?wtq (pv_ix_arr T0 rfl rfl rfl rfl (by omega) (by simp; rfl)) rfl rfl ?_) | (show AWL _ _ _ (⟨_, .binOp .lss _ _ _ _, _, _, _, _⟩ :: _) _ _ _; refine awl_pw ?wtq (pv_lss rfl rfl rfl) rfl rfl ?_) | (show AWL _ _ _ (⟨_, .binOp .eql _ _ _ _, _, _, _, _⟩ :: _) _ _ _; refine awl_pw ?wtq (pv_eql rfl rfl rfl) rfl rfl ?_) | (show AWL _ _ _ (⟨_, .unOp .not _ _, _, _, _, _⟩ :: _) _ _ _; refine awl_pw ?wtq (pv_not rfl rfl) rfl rfl ?_) | (show AWL _ _ _ (⟨_, .pick _ _ _, _, _, _, _⟩ :: _) _ _ _; refine awl_pw ?wtq (pv_pick_t rfl rfl (by first | rfl | assumption | exact dT (by omega) | exact dF (by omega)) rfl) rfl rfl ?_) | (show AWL _ _ _ (⟨_, .pick _ _ _, _, _, _, _⟩ :: _) _ _ _; refine awl_pw ?wtq (pv_pick_f rfl rfl (by first | rfl | assumption | exact dT (by omega) | exact dF (by omega)) rfl) rfl rfl ?_)); case wtq => first | exact wt_none rfl | exact wt_some' rfl rfl rfl rfl (by first | rfl | assumption | exact dT (by omega) | exact dF (by omega))) | refine awl_sk (wf_some rfl rfl rfl rfl (by first | rfl | assumption | exact dT (by omega) | exact dF (by omega))) rfl rfl ?_ | refine awl_nil ?_)
      dsimp only
      rw [d1]
      exact cut_n ⟨rfl, rfl⟩ (by first | ((repeat' (first | exact True.intro | refine ⟨rfl, ?_⟩)); all_goals fail) | fail) (SubH.refl _)
    · have d1 := decide_eq_false hc
      obtain rfl : b = true := by rw [← hb]; simp [meetsB]; omega
      repeat (first | refine awp_region_lit rfl ?_ | ((first | (show AWL _ _ _ (⟨_, .load _ _, _, _, _, _⟩ :: _) _ _ _; refine awl_lw ?wtq (lv_cl1 T0 rfl rfl rfl (by solve | repeat' constructor) (by first | rfl | assumption)) rfl rfl rfl ?_) | (show AWL _ _ _ (⟨_, .fieldAddr _ _ _, _, _, _, _⟩ :: _) _ _ _; refine awl_pw ?wtq (pv_fa T0 rfl rfl rfl (by simp; rfl)) rfl rfl ?_)); case wtq => first | exact wt_none rfl | exact wt_some' rfl rfl rfl rfl (by first | rfl | assumption | exact dT (by omega) | exact dF (by omega))))
      refine awl_pw (wt_none rfl) (pv_eqlb rfl rfl rfl Try.underlying4) rfl rfl ?_
      repeat (first | ((first | (show AWL _ _ _ (⟨_, .move _, _, _, _, _⟩ :: _) _ _ _; refine awl_pw ?wtq (pv_move rfl rfl) rfl rfl ?_) | (show AWL _ _ _ (⟨_, .load _ _, _, _, _, _⟩ :: _) _ _ _; refine awl_lw ?wtq (lv_cl1 T0 rfl rfl rfl (by solve | repeat' constructor) (by first | rfl | assumption)) rfl rfl rfl ?_) | (show AWL _ _ _ (⟨_, .fieldAddr _ _ _, _, _, _, _⟩ :: _) _ _ _; refine awl_pw ?wtq (pv_fa T0 rfl rfl rfl (by simp; rfl)) rfl rfl ?_) | (show AWL _ _ _ (⟨_, .indexAddr _ _ _, _, _, _, _⟩ :: _) _ _ _; refine awl_pw ?wtq (pv_ix_arr T0 rfl rfl rfl rfl (by omega) (by simp; rfl)) rfl rfl ?_) | (show AWL _ _ _ (⟨_, .binOp .lss _ _ _ _, _, _, _, _⟩ :: _) _ _ _; refine awl_pw ?wtq (pv_lss rfl rfl rfl) rfl rfl ?_) | (show AWL _ _ _ (⟨_, .binOp .eql _ _ _ _, _, _, _, _⟩ :: _) _ _ _; refine awl_pw ?wtq (pv_eql rfl rfl rfl) rfl rfl ?_) | (show AWL _ _ _ (⟨_, .unOp .not _ _, _, _, _, _⟩ :: _) _ _ _; refine awl_pw ?wtq (pv_not rfl rfl) rfl rfl ?_) | (show AWL _ _ _ (⟨_, .pick _ _ _, _, _, _, _⟩ :: _) _ _ _; refine awl_pw ?wtq (pv_pick_t rfl rfl (by first | rfl | assumption | exact dT (by omega) | exact dF (by omega)) rfl) rfl rfl ?_) | (show AWL _ _ _ (⟨_, .pick _ _ _, _, _, _, _⟩ :: _) _ _ _; refine awl_pw ?wtq (pv_pick_f rfl rfl (by first | rfl | assumption | exact dT (by omega) | exact dF (by omega)) rfl) rfl rfl ?_)); case wtq => first | exact wt_none rfl | exact wt_some' rfl rfl rfl rfl (by first | rfl | assumption | exact dT (by omega) | exact dF (by omega))) | refine awl_sk (wf_some rfl rfl rfl rfl (by first | rfl | assumption | exact dT (by omega) | exact dF (by omega))) rfl rfl ?_ | refine awl_nil ?_)
      dsimp only
      rw [d1]
      exact cut_n ⟨rfl, rfl⟩ (by first | ((repeat' (first | exact True.intro | refine ⟨rfl, ?_⟩)); all_goals fail) | fail) (SubH.refl _)
  · by_cases hc : ol < xl
    · have d1 := decide_eq_true hc
      obtain rfl : b = false := by rw [← hb]; simp [meetsB]; omega
      repeat (first | refine awp_region_lit rfl ?_ | ((first | (show AWL _ _ _ (⟨_, .load _ _, _, _, _, _⟩ :: _) _ _ _; refine awl_lw ?wtq (lv_cl1 T0 rfl rfl rfl (by solve | repeat' constructor) (by first | rfl | assumption)) rfl rfl rfl ?_) | (show AWL _ _ _ (⟨_, .fieldAddr _ _ _, _, _, _, _⟩ :: _) _ _ _; refine awl_pw ?wtq (pv_fa T0 rfl rfl rfl (by simp; rfl)) rfl rfl ?_)); case wtq => first | exact wt_none rfl | exact wt_some' rfl rfl rfl rfl (by first | rfl | assumption | exact dT (by omega) | exact dF (by omega))))
      refine awl_pw (wt_none rfl) (pv_eqlb rfl rfl rfl Try.underlying4) rfl rfl ?_
      repeat (first | ((first | (show AWL _ _ _ (⟨_, .move _, _, _, _, _⟩ :: _) _ _ _; refine awl_pw ?wtq (pv_move rfl rfl) rfl rfl ?_) | (show AWL _ _ _ (⟨_, .load _ _, _, _, _, _⟩ :: _) _ _ _; refine awl_lw ?wtq (lv_cl1 T0 rfl rfl rfl (by solve | repeat' constructor) (by first | rfl | assumption)) rfl rfl rfl ?_) | (show AWL _ _ _ (⟨_, .fieldAddr _ _ _, _, _, _, _⟩ :: _) _ _ _; refine awl_pw ?wtq (pv_fa T0 rfl rfl rfl (by simp; rfl)) rfl rfl ?_) | (show AWL _ _ _ (⟨_, .indexAddr _ _ _, _, _, _, _⟩ :: _) _ _ _; refine awl_pw ?wtq (pv_ix_arr T0 rfl rfl rfl rfl (by omega) (by simp; rfl)) rfl rfl ?_) | (show AWL _ _ _ (⟨_, .binOp .gtr _ _ _ _, _, _, _, _⟩ :: _) _ _ _; refine awl_pw ?wtq (pv_gtr rfl rfl rfl) rfl rfl ?_) | (show AWL _ _ _ (⟨_, .binOp .eql _ _ _ _, _, _, _, _⟩ :: _) _ _ _; refine awl_pw ?wtq (pv_eql rfl rfl rfl) rfl rfl ?_) | (show AWL _ _ _ (⟨_, .pick _ _ _, _, _, _, _⟩ :: _) _ _ _; refine awl_pw ?wtq (pv_pick_t rfl rfl (by first | rfl | assumption | exact dT (by omega) | exact dF (by omega)) rfl) rfl rfl ?_) | (show AWL _ _ _ (⟨_, .pick _ _ _, _, _, _, _⟩ :: _) _ _ _; refine awl_pw ?wtq (pv_pick_f rfl rfl (by first | rfl | assumption | exact dT (by omega) | exact dF (by omega)) rfl) rfl rfl ?_)); case wtq => first | exact wt_none rfl | exact wt_some' rfl rfl rfl rfl (by first | rfl | assumption | exact dT (by omega) | exact dF (by omega))) | refine awl_sk (wf_some rfl rfl rfl rfl (by first | rfl | assumption | exact dT (by omega) | exact dF (by omega))) rfl rfl ?_ | refine awl_sku (wu_some rfl rfl rfl rfl) rfl rfl ?_ | refine awl_nil ?_)
      exact cut_n ⟨rfl, rfl⟩ (by first | ((repeat' (first | exact True.intro | refine ⟨rfl, ?_⟩)); all_goals fail) | fail) (SubH.refl _)
    · have d1 := decide_eq_false hc
      obtain rfl : b = true := by rw [← hb]; simp [meetsB]; omega
      repeat (first | refine awp_region_lit rfl ?_ | ((first | (show AWL _ _ _ (⟨_, .load _ _, _, _, _, _⟩ :: _) _ _ _; refine awl_lw ?wtq (lv_cl1 T0 rfl rfl rfl (by solve | repeat' constructor) (by first | rfl | assumption)) rfl rfl rfl ?_) | (show AWL _ _ _ (⟨_, .fieldAddr _ _ _, _, _, _, _⟩ :: _) _ _ _; refine awl_pw ?wtq (pv_fa T0 rfl rfl rfl (by simp; rfl)) rfl rfl ?_)); case wtq => first | exact wt_none rfl | exact wt_some' rfl rfl rfl rfl (by first | rfl | assumption | exact dT (by omega) | exact dF (by omega))))
      refine awl_pw (wt_none rfl) (pv_eqlb rfl rfl rfl Try.underlying4) rfl rfl ?_
      repeat (first | ((first | (show AWL _ _ _ (⟨_, .move _, _, _, _, _⟩ :: _) _ _ _; refine awl_pw ?wtq (pv_move rfl rfl) rfl rfl ?_) | (show AWL _ _ _ (⟨_, .load _ _, _, _, _, _⟩ :: _) _ _ _; refine awl_lw ?wtq (lv_cl1 T0 rfl rfl rfl (by solve | repeat' constructor) (by first | rfl | assumption)) rfl rfl rfl ?_) | (show AWL _ _ _ (⟨_, .fieldAddr _ _ _, _, _, _, _⟩ :: _) _ _ _; refine awl_pw ?wtq (pv_fa T0 rfl rfl rfl (by simp; rfl)) rfl rfl ?_) | (show AWL _ _ _ (⟨_, .indexAddr _ _ _, _, _, _, _⟩ :: _) _ _ _; refine awl_pw ?wtq (pv_ix_arr T0 rfl rfl rfl rfl (by omega) (by simp; rfl)) rfl rfl ?_) | (show AWL _ _ _ (⟨_, .binOp .gtr _ _ _ _, _, _, _, _⟩ :: _) _ _ _; refine awl_pw ?wtq (pv_gtr rfl rfl rfl) rfl rfl ?_) | (show AWL _ _ _ (⟨_, .binOp .eql _ _ _ _, _, _, _, _⟩ :: _) _ _ _; refine awl_pw ?wtq (pv_eql rfl rfl rfl) rfl rfl ?_) | (show AWL _ _ _ (⟨_, .unOp .not _ _, _, _, _, _⟩ :: _) _ _ _; refine awl_pw ?wtq (pv_not rfl rfl) rfl rfl ?_) | (show AWL _ _ _ (⟨_, .pick _ _ _, _, _, _, _⟩ :: _) _ _ _; refine awl_pw ?wtq (pv_pick_t rfl rfl (by first | rfl | assumption | exact dT (by omega) | exact dF (by omega)) rfl) rfl rfl ?_) | (show AWL _ _ _ (⟨_, .pick _ _ _, _, _, _, _⟩ :: _) _ _ _; refine awl_pw ?wtq (pv_pick_f rfl rfl (by first | rfl | assumption | exact dT (by omega) | exact dF (by omega)) rfl) rfl rfl ?_)); case wtq => first | exact wt_none rfl | exact wt_some' rfl rfl rfl rfl (by first | rfl | assumption | exact dT (by omega) | exact dF (by omega))) | refine awl_sk (wf_some rfl rfl rfl rfl (by first | rfl | assumption | exact dT (by omega) | exact dF (by omega))) rfl rfl ?_ | refine awl_nil ?_)
      exact cut_n ⟨rfl, rfl⟩ (by first | ((repeat' (first | exact True.intro | refine ⟨rfl, ?_⟩)); all_goals fail) | fail) (SubH.refl _)
  · obtain rfl : b = false := by rw [← hb]; rfl
    repeat (first | refine awp_region_lit rfl ?_ | ((first | (show AWL _ _ _ (⟨_, .load _ _, _, _, _, _⟩ :: _) _ _ _; refine awl_lw ?wtq (lv_cl1 T0 rfl rfl rfl (by solve | repeat' constructor) (by first | rfl | assumption)) rfl rfl rfl ?_) | (show AWL _ _ _ (⟨_, .fieldAddr _ _ _, _, _, _, _⟩ :: _) _ _ _; refine awl_pw ?wtq (pv_fa T0 rfl rfl rfl (by simp; rfl)) rfl rfl ?_)); case wtq => first | exact wt_none rfl | exact wt_some' rfl rfl rfl rfl (by first | rfl | assumption | exact dT (by omega) | exact dF (by omega))))
    refine awl_pw (wt_none rfl) (pv_eqlb rfl rfl rfl Try.underlying4) rfl rfl ?_
    repeat (first | ((first | (show AWL _ _ _ (⟨_, .move _, _, _, _, _⟩ :: _) _ _ _; refine awl_pw ?wtq (pv_move rfl rfl) rfl rfl ?_) | (show AWL _ _ _ (⟨_, .fieldAddr _ _ _, _, _, _, _⟩ :: _) _ _ _; refine awl_pw ?wtq (pv_fa T0 rfl rfl rfl (by simp; rfl)) rfl rfl ?_) | (show AWL _ _ _ (⟨_, .pick _ _ _, _, _, _, _⟩ :: _) _ _ _; refine awl_pw ?wtq (pv_pick_t rfl rfl (by first | rfl | assumption | exact dT (by omega) | exact dF (by omega)) rfl) rfl rfl ?_)); case wtq => first | exact wt_none rfl | exact wt_some' rfl rfl rfl rfl (by first | rfl | assumption | exact dT (by omega) | exact dF (by omega))) | refine awl_sk (wf_some rfl rfl rfl rfl (by first | rfl | assumption | exact dT (by omega) | exact dF (by omega))) rfl rfl ?_ | refine awl_sku (wu_some rfl rfl rfl rfl) rfl rfl ?_ | refine awl_nil ?_)
    exact cut_n ⟨rfl, rfl⟩ (by first | ((repeat' (first | exact True.intro | refine ⟨rfl, ?_⟩)); all_goals fail) | fail) (SubH.refl _)
theorem rp_18a (hb : best < 0) {ops : Array Oper} (h : regF Try.f27 18 = some ops) :
    AWP Try.prog Try.f27.ntmps none (.region 18 ops true) (cutQ (fun s h => s = (122, boolA true) :: rpS g2 g6 g10 g14 u5 u7 u8 u9 (intA best) u12 u13 ∧ h = rpH g2 g6 g10 g14 cp p L o x rest))
      (rpS g2 g6 g10 g14 u5 u7 u8 u9 (intA best) u12 u13) (rpH g2 g6 g10 g14 cp p L o x rest) := by
  cases h
  have d1 := decide_eq_true hb
  refine awp_treeN T0 [(0, 0), (1, 0), (2, 0), (3, 0), (4, 1), (5, 0), (6, 0), (7, 1), (8, 0), (9, 1), (10, 0), (11, 0), (12, 0), (13, 1), (14, 0), (15, 0), (16, 0), (17, 0), (18, 0), (19, 1), (20, 0), (21, 0), (22, 0), (23, 1), (24, 0), (25, 1), (26, 0), (27, 0), (28, 0), (29, 1), (30, 0), (31, 0), (32, 0)] (.op 0 0 (.op 1 0 (.op 2 0 (.op 3 0 (.op 4 1 (.op 5 0 (.op 6 0 (.op 7 1 (.op 8 0 (.op 9 1 (.op 10 0 (.op 11 0 (.op 12 0 (.op 13 1 (.op 14 0 (.op 15 0 (.op 16 0 (.op 17 0 (.op 18 0 (.op 19 1 (.op 20 0 (.op 21 0 (.op 22 0 (.op 23 1 (.op 24 0 (.op 25 1 (.op 26 0 (.op 27 0 (.op 28 0 (.op 29 1 (.op 30 0 (.op 31 0 (.op 32 0 .stop))))))))))))))))))))))))))))))))) [.cl g14 _ _, .cl g2 _ _, .cl g10 _ _] rfl (by kernel_rfl) (by solve | repeat' constructor) ?_
  refine awt_po rfl (wt_none rfl) (pv_move rfl rfl) rfl rfl ?_
  refine awt_po rfl (wt_none rfl) (pv_lss rfl rfl rfl) rfl rfl ?_
  refine awt_po rfl (wt_none rfl) (pv_move rfl rfl) rfl rfl ?_
  refine awt_sk0 rfl (wf_some rfl rfl rfl rfl (by first | rfl | assumption | exact dT (by omega) | exact dF (by omega))) rfl rfl (fun _ _ h => h) rfl ?_
  refine awt_sk1 rfl (wf_some rfl rfl rfl rfl (by first | rfl | assumption | exact dT (by omega) | exact dF (by omega))) rfl rfl (fun _ _ h => h) rfl ?_
  refine awt_sk0 rfl (wf_some rfl rfl rfl rfl (by first | rfl | assumption | exact dT (by omega) | exact dF (by omega))) rfl rfl (fun _ _ h => h) rfl ?_
  refine awt_sk0u rfl (wu_some rfl rfl rfl rfl) rfl rfl rfl ?_
  refine awt_sk1u rfl (wu_some rfl rfl rfl rfl) rfl rfl rfl ?_
  refine awt_sk0u rfl (wu_some rfl rfl rfl rfl) rfl rfl rfl ?_
  refine awt_sk1u rfl (wu_some rfl rfl rfl rfl) rfl rfl rfl ?_
  refine awt_sk0u rfl (wu_some rfl rfl rfl rfl) rfl rfl rfl ?_
  refine awt_sk0u rfl (wu_some rfl rfl rfl rfl) rfl rfl rfl ?_
  refine awt_sk0u rfl (wu_some rfl rfl rfl rfl) rfl rfl rfl ?_
  refine awt_sk1u rfl (wu_some rfl rfl rfl rfl) rfl rfl rfl ?_
  refine awt_sk0u rfl (wu_some rfl rfl rfl rfl) rfl rfl rfl ?_
  refine awt_sk0 rfl (wf_some rfl rfl rfl rfl (by first | rfl | assumption | exact dT (by omega) | exact dF (by omega))) rfl rfl (fun _ _ h => h) rfl ?_
  refine awt_po rfl (wt_none rfl) (pv_pick_t rfl rfl (by first | rfl | assumption | exact dT (by omega) | exact dF (by omega)) rfl) rfl rfl ?_
  refine awt_po rfl (wt_none rfl) (pv_move rfl rfl) rfl rfl ?_
  refine awt_sk0 rfl (wf_some rfl rfl rfl rfl (by first | rfl | assumption | exact dT (by omega) | exact dF (by omega))) rfl rfl (fun _ _ h => h) rfl ?_
  refine awt_sk1 rfl (wf_some rfl rfl rfl rfl (by first | rfl | assumption | exact dT (by omega) | exact dF (by omega))) rfl rfl (fun _ _ h => h) rfl ?_
  refine awt_sk0 rfl (wf_some rfl rfl rfl rfl (by first | rfl | assumption | exact dT (by omega) | exact dF (by omega))) rfl rfl (fun _ _ h => h) rfl ?_
  refine awt_sk0 rfl (wf_some rfl rfl rfl rfl (by first | rfl | assumption | exact dT (by omega) | exact dF (by omega))) rfl rfl (fun _ _ h => h) rfl ?_
  refine awt_sk0u rfl (wu_some rfl rfl rfl rfl) rfl rfl rfl ?_
  refine awt_sk1u rfl (wu_some rfl rfl rfl rfl) rfl rfl rfl ?_
  refine awt_sk0u rfl (wu_some rfl rfl rfl rfl) rfl rfl rfl ?_
  refine awt_sk1u rfl (wu_some rfl rfl rfl rfl) rfl rfl rfl ?_
  refine awt_sk0u rfl (wu_some rfl rfl rfl rfl) rfl rfl rfl ?_
  refine awt_sk0u rfl (wu_some rfl rfl rfl rfl) rfl rfl rfl ?_
  refine awt_sk0u rfl (wu_some rfl rfl rfl rfl) rfl rfl rfl ?_
  refine awt_sk1u rfl (wu_some rfl rfl rfl rfl) rfl rfl rfl ?_
  refine awt_sk0u rfl (wu_some rfl rfl rfl rfl) rfl rfl rfl ?_
  refine awt_sk0 rfl (wf_some rfl rfl rfl rfl (by first | rfl | assumption | exact dT (by omega) | exact dF (by omega))) rfl rfl (fun _ _ h => h) rfl ?_
  refine awt_po rfl (wt_none rfl) (pv_pick_t rfl rfl (by first | rfl | assumption | exact dT (by omega) | exact dF (by omega)) rfl) rfl rfl ?_
  refine awt_end ?_
  exact cut_n ⟨rfl, rfl⟩ (by first | ((repeat' (first | exact True.intro | refine ⟨rfl, ?_⟩)); all_goals fail) | fail) (SubH.refl _)
theorem rp_18b (hkk : k < p.ords.length) (hb : o.buy = true) (hr : decide (x.lim < (p.ords.getD k default).lim) = b) {ops : Array Oper} (h : regF Try.f27 18 = some ops) :
    AWP Try.prog Try.f27.ntmps none (.region 18 ops true) (cutQ (fun s h => s = (122, boolA b) :: rpS g2 g6 g10 g14 u5 u7 u8 u9 (intA k) u12 u13 ∧ h = rpH g2 g6 g10 g14 cp p L o x rest))
      (rpS g2 g6 g10 g14 u5 u7 u8 u9 (intA k) u12 u13) (rpH g2 g6 g10 g14 cp p L o x rest) := by
  cases h
  obtain ⟨ob, ol, on, o1, o2⟩ := o
  cases hb
  have d1 : decide ((k : Int) < 0) = false := decide_eq_false (by omega)
  cases b
  · refine awp_treeN T0 [(0, 0), (1, 0), (2, 0), (3, 0), (4, 1), (5, 0), (6, 0), (7, 1), (8, 0), (9, 1), (10, 0), (11, 0), (12, 0), (13, 1), (14, 0), (15, 0), (16, 0), (17, 0), (18, 0), (19, 1), (20, 0), (21, 0), (22, 0), (23, 1), (24, 0), (25, 1), (26, 0), (27, 0), (28, 0), (29, 1), (30, 0), (31, 0), (32, 0)] (.op 0 0 (.op 1 0 (.op 2 0 (.op 3 0 (.op 4 1 (.op 5 0 (.op 6 0 (.op 7 1 (.op 8 0 (.op 9 1 (.op 10 0 (.op 11 0 (.op 12 0 (.op 13 1 (.op 14 0 (.op 15 0 (.op 16 0 (.op 17 0 (.op 18 0 (.op 19 1 (.op 20 0 (.op 21 0 (.op 22 0 (.op 23 1 (.op 24 0 (.op 25 1 (.op 26 0 (.op 27 0 (.op 28 0 (.op 29 1 (.op 30 0 (.op 31 0 (.op 32 0 .stop))))))))))))))))))))))))))))))))) [.cl g14 _ _, .cl g2 _ _, .cl g10 _ _] rfl (by kernel_rfl) (by solve | repeat' constructor) ?_
    refine awt_po rfl (wt_none rfl) (pv_move rfl rfl) rfl rfl ?_
    refine awt_po rfl (wt_none rfl) (pv_lss rfl rfl rfl) rfl rfl ?_
    refine awt_po rfl (wt_none rfl) (pv_move rfl rfl) rfl rfl ?_
    refine awt_po rfl (wt_some' rfl rfl rfl rfl (by first | rfl | assumption | exact dT (by omega) | exact dF (by omega))) (pv_fa T0 rfl rfl rfl (by simp; rfl)) rfl rfl ?_
    refine awt_lo rfl (wt_some' rfl rfl rfl rfl (by first | rfl | assumption | exact dT (by omega) | exact dF (by omega))) (lv_cl1 T0 rfl rfl rfl (by solve | repeat' constructor) (by first | rfl | assumption)) rfl rfl rfl ?_
    refine awt_po rfl (wt_some' rfl rfl rfl rfl (by first | rfl | assumption | exact dT (by omega) | exact dF (by omega))) (pv_move rfl rfl) rfl rfl ?_
    refine awt_po rfl (wt_some' rfl rfl rfl rfl (by first | rfl | assumption | exact dT (by omega) | exact dF (by omega))) (pv_fa T0 rfl rfl rfl (by simp; rfl)) rfl rfl ?_
    refine awt_lo rfl (wt_some' rfl rfl rfl rfl (by first | rfl | assumption | exact dT (by omega) | exact dF (by omega))) (lv_cl1 T0 rfl rfl rfl (by solve | repeat' constructor) (by first | rfl | assumption)) rfl rfl rfl ?_
    refine awt_po rfl (wt_some' rfl rfl rfl rfl (by first | rfl | assumption | exact dT (by omega) | exact dF (by omega))) (pv_fa T0 rfl rfl rfl (by simp; rfl)) rfl rfl ?_
    refine awt_lo rfl (wt_some' rfl rfl rfl rfl (by first | rfl | assumption | exact dT (by omega) | exact dF (by omega))) (lv_cl1 T0 rfl rfl rfl (by solve | repeat' constructor) (by first | rfl | assumption)) rfl rfl rfl ?_
    refine awt_po rfl (wt_some' rfl rfl rfl rfl (by first | rfl | assumption | exact dT (by omega) | exact dF (by omega))) (pv_move rfl rfl) rfl rfl ?_
    refine awt_po rfl (wt_some' rfl rfl rfl rfl (by first | rfl | assumption | exact dT (by omega) | exact dF (by omega))) (pv_ix_t T0 rfl rfl rfl rfl (by omega) (by first | exact (rfl : Int.toNat 0 = 0) | exact Int.toNat_natCast _ | rfl)) rfl rfl ?_
    refine awt_po rfl (wt_some' rfl rfl rfl rfl (by first | rfl | assumption | exact dT (by omega) | exact dF (by omega))) (pv_fa_elt T0 rfl rfl rfl (by simp; rfl)) rfl rfl ?_
    refine awt_lo rfl (wt_some' rfl rfl rfl rfl (by first | rfl | assumption | exact dT (by omega) | exact dF (by omega))) (lv_elt_sc T0 rfl rfl rfl rfl) rfl rfl rfl ?_
    refine awt_po rfl (wt_some' rfl rfl rfl rfl (by first | rfl | assumption | exact dT (by omega) | exact dF (by omega))) (pv_lss rfl rfl rfl) rfl rfl ?_
    refine awt_po rfl (wt_some' rfl rfl rfl rfl (by first | rfl | assumption | exact dT (by omega) | exact dF (by omega))) (pv_pick_t rfl rfl (by first | rfl | assumption | exact dT (by omega) | exact dF (by omega)) rfl) rfl rfl ?_
    refine awt_po rfl (wt_none rfl) (pv_pick_f rfl rfl (by first | rfl | assumption | exact dT (by omega) | exact dF (by omega)) rfl) rfl rfl ?_
    refine awt_po rfl (wt_none rfl) (pv_move rfl rfl) rfl rfl ?_
    refine awt_po rfl (wt_some' rfl rfl rfl rfl (by first | rfl | assumption | exact dT (by omega) | exact dF (by omega))) (pv_fa T0 rfl rfl rfl (by simp; rfl)) rfl rfl ?_
    refine awt_lo rfl (wt_some' rfl rfl rfl rfl (by first | rfl | assumption | exact dT (by omega) | exact dF (by omega))) (lv_cl1 T0 rfl rfl rfl (by solve | repeat' constructor) (by first | rfl | assumption)) rfl rfl rfl ?_
    refine awt_po rfl (wt_some' rfl rfl rfl rfl (by first | rfl | assumption | exact dT (by omega) | exact dF (by omega))) (pv_not rfl rfl) rfl rfl ?_
    refine awt_po rfl (wt_some' rfl rfl rfl rfl (by first | rfl | assumption | exact dT (by omega) | exact dF (by omega))) (pv_move rfl rfl) rfl rfl ?_
    refine awt_sk0 rfl (wf_some rfl rfl rfl rfl (by first | rfl | assumption | exact dT (by omega) | exact dF (by omega))) rfl rfl (fun _ _ h => h) rfl ?_
    refine awt_sk1 rfl (wf_some rfl rfl rfl rfl (by first | rfl | assumption | exact dT (by omega) | exact dF (by omega))) rfl rfl (fun _ _ h => h) rfl ?_
    refine awt_sk0 rfl (wf_some rfl rfl rfl rfl (by first | rfl | assumption | exact dT (by omega) | exact dF (by omega))) rfl rfl (fun _ _ h => h) rfl ?_
    refine awt_sk1 rfl (wf_some rfl rfl rfl rfl (by first | rfl | assumption | exact dT (by omega) | exact dF (by omega))) rfl rfl (fun _ _ h => h) rfl ?_
    refine awt_sk0 rfl (wf_some rfl rfl rfl rfl (by first | rfl | assumption | exact dT (by omega) | exact dF (by omega))) rfl rfl (fun _ _ h => h) rfl ?_
    refine awt_sk0 rfl (wf_some rfl rfl rfl rfl (by first | rfl | assumption | exact dT (by omega) | exact dF (by omega))) rfl rfl (fun _ _ h => h) rfl ?_
    refine awt_sk0 rfl (wf_some rfl rfl rfl rfl (by first | rfl | assumption | exact dT (by omega) | exact dF (by omega))) rfl rfl (fun _ _ h => h) rfl ?_
    refine awt_sk1 rfl (wf_some rfl rfl rfl rfl (by first | rfl | assumption | exact dT (by omega) | exact dF (by omega))) rfl rfl (fun _ _ h => h) rfl ?_
    refine awt_sk0 rfl (wf_some rfl rfl rfl rfl (by first | rfl | assumption | exact dT (by omega) | exact dF (by omega))) rfl rfl (fun _ _ h => h) rfl ?_
    refine awt_po rfl (wt_some' rfl rfl rfl rfl (by first | rfl | assumption | exact dT (by omega) | exact dF (by omega))) (pv_pick_f rfl rfl (by first | rfl | assumption | exact dT (by omega) | exact dF (by omega)) rfl) rfl rfl ?_
    refine awt_po rfl (wt_none rfl) (pv_pick_f rfl rfl (by first | rfl | assumption | exact dT (by omega) | exact dF (by omega)) rfl) rfl rfl ?_
    refine awt_end ?_
    simp only [hr]
    exact cut_n ⟨rfl, rfl⟩ (by first | ((repeat' (first | exact True.intro | refine ⟨rfl, ?_⟩)); all_goals fail) | fail) (SubH.refl _)
  · refine awp_treeN T0 [(0, 0), (1, 0), (2, 0), (3, 0), (4, 1), (5, 0), (6, 0), (7, 1), (8, 0), (9, 1), (10, 0), (11, 0), (12, 0), (13, 1), (14, 0), (15, 0), (16, 0), (17, 0), (18, 0), (19, 1), (20, 0), (21, 0), (22, 0), (23, 1), (24, 0), (25, 1), (26, 0), (27, 0), (28, 0), (29, 1), (30, 0), (31, 0), (32, 0)] (.op 0 0 (.op 1 0 (.op 2 0 (.op 3 0 (.op 4 1 (.op 5 0 (.op 6 0 (.op 7 1 (.op 8 0 (.op 9 1 (.op 10 0 (.op 11 0 (.op 12 0 (.op 13 1 (.op 14 0 (.op 15 0 (.op 16 0 (.op 17 0 (.op 18 0 (.op 19 1 (.op 20 0 (.op 21 0 (.op 22 0 (.op 23 1 (.op 24 0 (.op 25 1 (.op 26 0 (.op 27 0 (.op 28 0 (.op 29 1 (.op 30 0 (.op 31 0 (.op 32 0 .stop))))))))))))))))))))))))))))))))) [.cl g14 _ _, .cl g2 _ _, .cl g10 _ _] rfl (by kernel_rfl) (by solve | repeat' constructor) ?_
    refine awt_po rfl (wt_none rfl) (pv_move rfl rfl) rfl rfl ?_
    refine awt_po rfl (wt_none rfl) (pv_lss rfl rfl rfl) rfl rfl ?_
    refine awt_po rfl (wt_none rfl) (pv_move rfl rfl) rfl rfl ?_
    refine awt_po rfl (wt_some' rfl rfl rfl rfl (by first | rfl | assumption | exact dT (by omega) | exact dF (by omega))) (pv_fa T0 rfl rfl rfl (by simp; rfl)) rfl rfl ?_
    refine awt_lo rfl (wt_some' rfl rfl rfl rfl (by first | rfl | assumption | exact dT (by omega) | exact dF (by omega))) (lv_cl1 T0 rfl rfl rfl (by solve | repeat' constructor) (by first | rfl | assumption)) rfl rfl rfl ?_
    refine awt_po rfl (wt_some' rfl rfl rfl rfl (by first | rfl | assumption | exact dT (by omega) | exact dF (by omega))) (pv_move rfl rfl) rfl rfl ?_
    refine awt_po rfl (wt_some' rfl rfl rfl rfl (by first | rfl | assumption | exact dT (by omega) | exact dF (by omega))) (pv_fa T0 rfl rfl rfl (by simp; rfl)) rfl rfl ?_
    refine awt_lo rfl (wt_some' rfl rfl rfl rfl (by first | rfl | assumption | exact dT (by omega) | exact dF (by omega))) (lv_cl1 T0 rfl rfl rfl (by solve | repeat' constructor) (by first | rfl | assumption)) rfl rfl rfl ?_
    refine awt_po rfl (wt_some' rfl rfl rfl rfl (by first | rfl | assumption | exact dT (by omega) | exact dF (by omega))) (pv_fa T0 rfl rfl rfl (by simp; rfl)) rfl rfl ?_
    refine awt_lo rfl (wt_some' rfl rfl rfl rfl (by first | rfl | assumption | exact dT (by omega) | exact dF (by omega))) (lv_cl1 T0 rfl rfl rfl (by solve | repeat' constructor) (by first | rfl | assumption)) rfl rfl rfl ?_
    refine awt_po rfl (wt_some' rfl rfl rfl rfl (by first | rfl | assumption | exact dT (by omega) | exact dF (by omega))) (pv_move rfl rfl) rfl rfl ?_
    refine awt_po rfl (wt_some' rfl rfl rfl rfl (by first | rfl | assumption | exact dT (by omega) | exact dF (by omega))) (pv_ix_t T0 rfl rfl rfl rfl (by omega) (by first | exact (rfl : Int.toNat 0 = 0) | exact Int.toNat_natCast _ | rfl)) rfl rfl ?_
    refine awt_po rfl (wt_some' rfl rfl rfl rfl (by first | rfl | assumption | exact dT (by omega) | exact dF (by omega))) (pv_fa_elt T0 rfl rfl rfl (by simp; rfl)) rfl rfl ?_
    refine awt_lo rfl (wt_some' rfl rfl rfl rfl (by first | rfl | assumption | exact dT (by omega) | exact dF (by omega))) (lv_elt_sc T0 rfl rfl rfl rfl) rfl rfl rfl ?_
    refine awt_po rfl (wt_some' rfl rfl rfl rfl (by first | rfl | assumption | exact dT (by omega) | exact dF (by omega))) (pv_lss rfl rfl rfl) rfl rfl ?_
    refine awt_po rfl (wt_some' rfl rfl rfl rfl (by first | rfl | assumption | exact dT (by omega) | exact dF (by omega))) (pv_pick_t rfl rfl (by first | rfl | assumption | exact dT (by omega) | exact dF (by omega)) rfl) rfl rfl ?_
    refine awt_po rfl (wt_none rfl) (pv_pick_f rfl rfl (by first | rfl | assumption | exact dT (by omega) | exact dF (by omega)) rfl) rfl rfl ?_
    refine awt_po rfl (wt_none rfl) (pv_move rfl rfl) rfl rfl ?_
    refine awt_sk0 rfl (wf_some rfl rfl rfl rfl (by first | rfl | assumption | exact dT (by omega) | exact dF (by omega))) rfl rfl (fun _ _ h => h) rfl ?_
    refine awt_sk1 rfl (wf_some rfl rfl rfl rfl (by first | rfl | assumption | exact dT (by omega) | exact dF (by omega))) rfl rfl (fun _ _ h => h) rfl ?_
    refine awt_sk0 rfl (wf_some rfl rfl rfl rfl (by first | rfl | assumption | exact dT (by omega) | exact dF (by omega))) rfl rfl (fun _ _ h => h) rfl ?_
    refine awt_sk0 rfl (wf_some rfl rfl rfl rfl (by first | rfl | assumption | exact dT (by omega) | exact dF (by omega))) rfl rfl (fun _ _ h => h) rfl ?_
    refine awt_sk0u rfl (wu_some rfl rfl rfl rfl) rfl rfl rfl ?_
    refine awt_sk1u rfl (wu_some rfl rfl rfl rfl) rfl rfl rfl ?_
    refine awt_sk0u rfl (wu_some rfl rfl rfl rfl) rfl rfl rfl ?_
    refine awt_sk1u rfl (wu_some rfl rfl rfl rfl) rfl rfl rfl ?_
    refine awt_sk0u rfl (wu_some rfl rfl rfl rfl) rfl rfl rfl ?_
    refine awt_sk0u rfl (wu_some rfl rfl rfl rfl) rfl rfl rfl ?_
    refine awt_sk0u rfl (wu_some rfl rfl rfl rfl) rfl rfl rfl ?_
    refine awt_sk1u rfl (wu_some rfl rfl rfl rfl) rfl rfl rfl ?_
    refine awt_sk0u rfl (wu_some rfl rfl rfl rfl) rfl rfl rfl ?_
    refine awt_sk0 rfl (wf_some rfl rfl rfl rfl (by first | rfl | assumption | exact dT (by omega) | exact dF (by omega))) rfl rfl (fun _ _ h => h) rfl ?_
    refine awt_po rfl (wt_none rfl) (pv_pick_t rfl rfl (by first | rfl | assumption | exact dT (by omega) | exact dF (by omega)) rfl) rfl rfl ?_
    refine awt_end ?_
    simp only [hr]
    exact cut_n ⟨rfl, rfl⟩ (by first | ((repeat' (first | exact True.intro | refine ⟨rfl, ?_⟩)); all_goals fail) | fail) (SubH.refl _)
theorem rp_18c (hkk : k < p.ords.length) (hb : o.buy = false) (hr : decide ((p.ords.getD k default).lim < x.lim) = b) {ops : Array Oper} (h : regF Try.f27 18 = some ops) :
    AWP Try.prog Try.f27.ntmps none (.region 18 ops true) (cutQ (fun s h => s = (122, boolA b) :: rpS g2 g6 g10 g14 u5 u7 u8 u9 (intA k) u12 u13 ∧ h = rpH g2 g6 g10 g14 cp p L o x rest))
      (rpS g2 g6 g10 g14 u5 u7 u8 u9 (intA k) u12 u13) (rpH g2 g6 g10 g14 cp p L o x rest) := by
  cases h
  obtain ⟨ob, ol, on, o1, o2⟩ := o
  cases hb
  have d1 : decide ((k : Int) < 0) = false := decide_eq_false (by omega)
  cases b
  · refine awp_treeN T0 [(0, 0), (1, 0), (2, 0), (3, 0), (4, 1), (5, 0), (6, 0), (7, 1), (8, 0), (9, 1), (10, 0), (11, 0), (12, 0), (13, 1), (14, 0), (15, 0), (16, 0), (17, 0), (18, 0), (19, 1), (20, 0), (21, 0), (22, 0), (23, 1), (24, 0), (25, 1), (26, 0), (27, 0), (28, 0), (29, 1), (30, 0), (31, 0), (32, 0)] (.op 0 0 (.op 1 0 (.op 2 0 (.op 3 0 (.op 4 1 (.op 5 0 (.op 6 0 (.op 7 1 (.op 8 0 (.op 9 1 (.op 10 0 (.op 11 0 (.op 12 0 (.op 13 1 (.op 14 0 (.op 15 0 (.op 16 0 (.op 17 0 (.op 18 0 (.op 19 1 (.op 20 0 (.op 21 0 (.op 22 0 (.op 23 1 (.op 24 0 (.op 25 1 (.op 26 0 (.op 27 0 (.op 28 0 (.op 29 1 (.op 30 0 (.op 31 0 (.op 32 0 .stop))))))))))))))))))))))))))))))))) [.cl g14 _ _, .cl g2 _ _, .cl g10 _ _] rfl (by kernel_rfl) (by solve | repeat' constructor) ?_
    refine awt_po rfl (wt_none rfl) (pv_move rfl rfl) rfl rfl ?_
    refine awt_po rfl (wt_none rfl) (pv_lss rfl rfl rfl) rfl rfl ?_
    refine awt_po rfl (wt_none rfl) (pv_move rfl rfl) rfl rfl ?_
    refine awt_po rfl (wt_some' rfl rfl rfl rfl (by first | rfl | assumption | exact dT (by omega) | exact dF (by omega))) (pv_fa T0 rfl rfl rfl (by simp; rfl)) rfl rfl ?_
    refine awt_lo rfl (wt_some' rfl rfl rfl rfl (by first | rfl | assumption | exact dT (by omega) | exact dF (by omega))) (lv_cl1 T0 rfl rfl rfl (by solve | repeat' constructor) (by first | rfl | assumption)) rfl rfl rfl ?_
    refine awt_po rfl (wt_some' rfl rfl rfl rfl (by first | rfl | assumption | exact dT (by omega) | exact dF (by omega))) (pv_move rfl rfl) rfl rfl ?_
    refine awt_sk0 rfl (wf_some rfl rfl rfl rfl (by first | rfl | assumption | exact dT (by omega) | exact dF (by omega))) rfl rfl (fun _ _ h => h) rfl ?_
    refine awt_sk1 rfl (wf_some rfl rfl rfl rfl (by first | rfl | assumption | exact dT (by omega) | exact dF (by omega))) rfl rfl (fun _ _ h => h) rfl ?_
    refine awt_sk0 rfl (wf_some rfl rfl rfl rfl (by first | rfl | assumption | exact dT (by omega) | exact dF (by omega))) rfl rfl (fun _ _ h => h) rfl ?_
    refine awt_sk1 rfl (wf_some rfl rfl rfl rfl (by first | rfl | assumption | exact dT (by omega) | exact dF (by omega))) rfl rfl (fun _ _ h => h) rfl ?_
    refine awt_sk0 rfl (wf_some rfl rfl rfl rfl (by first | rfl | assumption | exact dT (by omega) | exact dF (by omega))) rfl rfl (fun _ _ h => h) rfl ?_
    refine awt_sk0 rfl (wf_some rfl rfl rfl rfl (by first | rfl | assumption | exact dT (by omega) | exact dF (by omega))) rfl rfl (fun _ _ h => h) rfl ?_
    refine awt_sk0 rfl (wf_some rfl rfl rfl rfl (by first | rfl | assumption | exact dT (by omega) | exact dF (by omega))) rfl rfl (fun _ _ h => h) rfl ?_
    refine awt_sk1 rfl (wf_some rfl rfl rfl rfl (by first | rfl | assumption | exact dT (by omega) | exact dF (by omega))) rfl rfl (fun _ _ h => h) rfl ?_
    refine awt_sk0 rfl (wf_some rfl rfl rfl rfl (by first | rfl | assumption | exact dT (by omega) | exact dF (by omega))) rfl rfl (fun _ _ h => h) rfl ?_
    refine awt_po rfl (wt_some' rfl rfl rfl rfl (by first | rfl | assumption | exact dT (by omega) | exact dF (by omega))) (pv_pick_f rfl rfl (by first | rfl | assumption | exact dT (by omega) | exact dF (by omega)) rfl) rfl rfl ?_
    refine awt_po rfl (wt_none rfl) (pv_pick_f rfl rfl (by first | rfl | assumption | exact dT (by omega) | exact dF (by omega)) rfl) rfl rfl ?_
    refine awt_po rfl (wt_none rfl) (pv_move rfl rfl) rfl rfl ?_
    refine awt_po rfl (wt_some' rfl rfl rfl rfl (by first | rfl | assumption | exact dT (by omega) | exact dF (by omega))) (pv_fa T0 rfl rfl rfl (by simp; rfl)) rfl rfl ?_
    refine awt_lo rfl (wt_some' rfl rfl rfl rfl (by first | rfl | assumption | exact dT (by omega) | exact dF (by omega))) (lv_cl1 T0 rfl rfl rfl (by solve | repeat' constructor) (by first | rfl | assumption)) rfl rfl rfl ?_
    refine awt_po rfl (wt_some' rfl rfl rfl rfl (by first | rfl | assumption | exact dT (by omega) | exact dF (by omega))) (pv_not rfl rfl) rfl rfl ?_
    refine awt_po rfl (wt_some' rfl rfl rfl rfl (by first | rfl | assumption | exact dT (by omega) | exact dF (by omega))) (pv_move rfl rfl) rfl rfl ?_
    refine awt_po rfl (wt_some' rfl rfl rfl rfl (by first | rfl | assumption | exact dT (by omega) | exact dF (by omega))) (pv_fa T0 rfl rfl rfl (by simp; rfl)) rfl rfl ?_
    refine awt_lo rfl (wt_some' rfl rfl rfl rfl (by first | rfl | assumption | exact dT (by omega) | exact dF (by omega))) (lv_cl1 T0 rfl rfl rfl (by solve | repeat' constructor) (by first | rfl | assumption)) rfl rfl rfl ?_
    refine awt_po rfl (wt_some' rfl rfl rfl rfl (by first | rfl | assumption | exact dT (by omega) | exact dF (by omega))) (pv_fa T0 rfl rfl rfl (by simp; rfl)) rfl rfl ?_
    refine awt_lo rfl (wt_some' rfl rfl rfl rfl (by first | rfl | assumption | exact dT (by omega) | exact dF (by omega))) (lv_cl1 T0 rfl rfl rfl (by solve | repeat' constructor) (by first | rfl | assumption)) rfl rfl rfl ?_
    refine awt_po rfl (wt_some' rfl rfl rfl rfl (by first | rfl | assumption | exact dT (by omega) | exact dF (by omega))) (pv_move rfl rfl) rfl rfl ?_
    refine awt_po rfl (wt_some' rfl rfl rfl rfl (by first | rfl | assumption | exact dT (by omega) | exact dF (by omega))) (pv_ix_t T0 rfl rfl rfl rfl (by omega) (by first | exact (rfl : Int.toNat 0 = 0) | exact Int.toNat_natCast _ | rfl)) rfl rfl ?_
    refine awt_po rfl (wt_some' rfl rfl rfl rfl (by first | rfl | assumption | exact dT (by omega) | exact dF (by omega))) (pv_fa_elt T0 rfl rfl rfl (by simp; rfl)) rfl rfl ?_
    refine awt_lo rfl (wt_some' rfl rfl rfl rfl (by first | rfl | assumption | exact dT (by omega) | exact dF (by omega))) (lv_elt_sc T0 rfl rfl rfl rfl) rfl rfl rfl ?_
    refine awt_po rfl (wt_some' rfl rfl rfl rfl (by first | rfl | assumption | exact dT (by omega) | exact dF (by omega))) (pv_gtr rfl rfl rfl) rfl rfl ?_
    refine awt_po rfl (wt_some' rfl rfl rfl rfl (by first | rfl | assumption | exact dT (by omega) | exact dF (by omega))) (pv_pick_t rfl rfl (by first | rfl | assumption | exact dT (by omega) | exact dF (by omega)) rfl) rfl rfl ?_
    refine awt_po rfl (wt_none rfl) (pv_pick_f rfl rfl (by first | rfl | assumption | exact dT (by omega) | exact dF (by omega)) rfl) rfl rfl ?_
    refine awt_end ?_
    simp only [hr]
    exact cut_n ⟨rfl, rfl⟩ (by first | ((repeat' (first | exact True.intro | refine ⟨rfl, ?_⟩)); all_goals fail) | fail) (SubH.refl _)
  · refine awp_treeN T0 [(0, 0), (1, 0), (2, 0), (3, 0), (4, 1), (5, 0), (6, 0), (7, 1), (8, 0), (9, 1), (10, 0), (11, 0), (12, 0), (13, 1), (14, 0), (15, 0), (16, 0), (17, 0), (18, 0), (19, 1), (20, 0), (21, 0), (22, 0), (23, 1), (24, 0), (25, 1), (26, 0), (27, 0), (28, 0), (29, 1), (30, 0), (31, 0), (32, 0)] (.op 0 0 (.op 1 0 (.op 2 0 (.op 3 0 (.op 4 1 (.op 5 0 (.op 6 0 (.op 7 1 (.op 8 0 (.op 9 1 (.op 10 0 (.op 11 0 (.op 12 0 (.op 13 1 (.op 14 0 (.op 15 0 (.op 16 0 (.op 17 0 (.op 18 0 (.op 19 1 (.op 20 0 (.op 21 0 (.op 22 0 (.op 23 1 (.op 24 0 (.op 25 1 (.op 26 0 (.op 27 0 (.op 28 0 (.op 29 1 (.op 30 0 (.op 31 0 (.op 32 0 .stop))))))))))))))))))))))))))))))))) [.cl g14 _ _, .cl g2 _ _, .cl g10 _ _] rfl (by kernel_rfl) (by solve | repeat' constructor) ?_
    refine awt_po rfl (wt_none rfl) (pv_move rfl rfl) rfl rfl ?_
    refine awt_po rfl (wt_none rfl) (pv_lss rfl rfl rfl) rfl rfl ?_
    refine awt_po rfl (wt_none rfl) (pv_move rfl rfl) rfl rfl ?_
    refine awt_po rfl (wt_some' rfl rfl rfl rfl (by first | rfl | assumption | exact dT (by omega) | exact dF (by omega))) (pv_fa T0 rfl rfl rfl (by simp; rfl)) rfl rfl ?_
    refine awt_lo rfl (wt_some' rfl rfl rfl rfl (by first | rfl | assumption | exact dT (by omega) | exact dF (by omega))) (lv_cl1 T0 rfl rfl rfl (by solve | repeat' constructor) (by first | rfl | assumption)) rfl rfl rfl ?_
    refine awt_po rfl (wt_some' rfl rfl rfl rfl (by first | rfl | assumption | exact dT (by omega) | exact dF (by omega))) (pv_move rfl rfl) rfl rfl ?_
    refine awt_sk0 rfl (wf_some rfl rfl rfl rfl (by first | rfl | assumption | exact dT (by omega) | exact dF (by omega))) rfl rfl (fun _ _ h => h) rfl ?_
    refine awt_sk1 rfl (wf_some rfl rfl rfl rfl (by first | rfl | assumption | exact dT (by omega) | exact dF (by omega))) rfl rfl (fun _ _ h => h) rfl ?_
    refine awt_sk0 rfl (wf_some rfl rfl rfl rfl (by first | rfl | assumption | exact dT (by omega) | exact dF (by omega))) rfl rfl (fun _ _ h => h) rfl ?_
    refine awt_sk1 rfl (wf_some rfl rfl rfl rfl (by first | rfl | assumption | exact dT (by omega) | exact dF (by omega))) rfl rfl (fun _ _ h => h) rfl ?_
    refine awt_sk0 rfl (wf_some rfl rfl rfl rfl (by first | rfl | assumption | exact dT (by omega) | exact dF (by omega))) rfl rfl (fun _ _ h => h) rfl ?_
    refine awt_sk0 rfl (wf_some rfl rfl rfl rfl (by first | rfl | assumption | exact dT (by omega) | exact dF (by omega))) rfl rfl (fun _ _ h => h) rfl ?_
    refine awt_sk0 rfl (wf_some rfl rfl rfl rfl (by first | rfl | assumption | exact dT (by omega) | exact dF (by omega))) rfl rfl (fun _ _ h => h) rfl ?_
    refine awt_sk1 rfl (wf_some rfl rfl rfl rfl (by first | rfl | assumption | exact dT (by omega) | exact dF (by omega))) rfl rfl (fun _ _ h => h) rfl ?_
    refine awt_sk0 rfl (wf_some rfl rfl rfl rfl (by first | rfl | assumption | exact dT (by omega) | exact dF (by omega))) rfl rfl (fun _ _ h => h) rfl ?_
    refine awt_po rfl (wt_some' rfl rfl rfl rfl (by first | rfl | assumption | exact dT (by omega) | exact dF (by omega))) (pv_pick_f rfl rfl (by first | rfl | assumption | exact dT (by omega) | exact dF (by omega)) rfl) rfl rfl ?_
    refine awt_po rfl (wt_none rfl) (pv_pick_f rfl rfl (by first | rfl | assumption | exact dT (by omega) | exact dF (by omega)) rfl) rfl rfl ?_
    refine awt_po rfl (wt_none rfl) (pv_move rfl rfl) rfl rfl ?_
    refine awt_po rfl (wt_some' rfl rfl rfl rfl (by first | rfl | assumption | exact dT (by omega) | exact dF (by omega))) (pv_fa T0 rfl rfl rfl (by simp; rfl)) rfl rfl ?_
    refine awt_lo rfl (wt_some' rfl rfl rfl rfl (by first | rfl | assumption | exact dT (by omega) | exact dF (by omega))) (lv_cl1 T0 rfl rfl rfl (by solve | repeat' constructor) (by first | rfl | assumption)) rfl rfl rfl ?_
    refine awt_po rfl (wt_some' rfl rfl rfl rfl (by first | rfl | assumption | exact dT (by omega) | exact dF (by omega))) (pv_not rfl rfl) rfl rfl ?_
    refine awt_po rfl (wt_some' rfl rfl rfl rfl (by first | rfl | assumption | exact dT (by omega) | exact dF (by omega))) (pv_move rfl rfl) rfl rfl ?_
    refine awt_po rfl (wt_some' rfl rfl rfl rfl (by first | rfl | assumption | exact dT (by omega) | exact dF (by omega))) (pv_fa T0 rfl rfl rfl (by simp; rfl)) rfl rfl ?_
    refine awt_lo rfl (wt_some' rfl rfl rfl rfl (by first | rfl | assumption | exact dT (by omega) | exact dF (by omega))) (lv_cl1 T0 rfl rfl rfl (by solve | repeat' constructor) (by first | rfl | assumption)) rfl rfl rfl ?_
    refine awt_po rfl (wt_some' rfl rfl rfl rfl (by first | rfl | assumption | exact dT (by omega) | exact dF (by omega))) (pv_fa T0 rfl rfl rfl (by simp; rfl)) rfl rfl ?_
    refine awt_lo rfl (wt_some' rfl rfl rfl rfl (by first | rfl | assumption | exact dT (by omega) | exact dF (by omega))) (lv_cl1 T0 rfl rfl rfl (by solve | repeat' constructor) (by first | rfl | assumption)) rfl rfl rfl ?_
    refine awt_po rfl (wt_some' rfl rfl rfl rfl (by first | rfl | assumption | exact dT (by omega) | exact dF (by omega))) (pv_move rfl rfl) rfl rfl ?_
    refine awt_po rfl (wt_some' rfl rfl rfl rfl (by first | rfl | assumption | exact dT (by omega) | exact dF (by omega))) (pv_ix_t T0 rfl rfl rfl rfl (by omega) (by first | exact (rfl : Int.toNat 0 = 0) | exact Int.toNat_natCast _ | rfl)) rfl rfl ?_
    refine awt_po rfl (wt_some' rfl rfl rfl rfl (by first | rfl | assumption | exact dT (by omega) | exact dF (by omega))) (pv_fa_elt T0 rfl rfl rfl (by simp; rfl)) rfl rfl ?_
    refine awt_lo rfl (wt_some' rfl rfl rfl rfl (by first | rfl | assumption | exact dT (by omega) | exact dF (by omega))) (lv_elt_sc T0 rfl rfl rfl rfl) rfl rfl rfl ?_
    refine awt_po rfl (wt_some' rfl rfl rfl rfl (by first | rfl | assumption | exact dT (by omega) | exact dF (by omega))) (pv_gtr rfl rfl rfl) rfl rfl ?_
    refine awt_po rfl (wt_some' rfl rfl rfl rfl (by first | rfl | assumption | exact dT (by omega) | exact dF (by omega))) (pv_pick_t rfl rfl (by first | rfl | assumption | exact dT (by omega) | exact dF (by omega)) rfl) rfl rfl ?_
    refine awt_po rfl (wt_none rfl) (pv_pick_f rfl rfl (by first | rfl | assumption | exact dT (by omega) | exact dF (by omega)) rfl) rfl rfl ?_
    refine awt_end ?_
    simp only [hr]
    exact cut_n ⟨rfl, rfl⟩ (by first | ((repeat' (first | exact True.intro | refine ⟨rfl, ?_⟩)); all_goals fail) | fail) (SubH.refl _)
end
theorem take_at {L : Nat → Int} {i b : Nat} {n : Int} (h : i ≠ b) : takeN L i b n i = L i - n ∧ takeN L i b n b = L b - n := by
  unfold takeN
  rw [if_neg h, if_pos rfl, if_pos rfl]
  exact ⟨rfl, rfl⟩
theorem take_zero (L : Nat → Int) (i b : Nat) : arrI (takeN L i b 0) 6 = arrI L 6 := by
  refine List.map_congr_left fun q _ => ?_
  unfold takeN
  by_cases e : q = b
  · subst e; rw [if_pos rfl, Int.sub_zero]
  · rw [if_neg e]
    by_cases e2 : q = i
    · subst e2; rw [if_pos rfl, Int.sub_zero]
    · rw [if_neg e2]
theorem take_one {L : Nat → Int} {i b : Nat} {n : Int} (h : i ≠ b) : ∀ q, q < 6 → takeN L i b (n + 1) q = if q = b then takeN L i b n b - 1 else (if q = i then takeN L i b n i - 1 else takeN L i b n q) := fun q _ => by
  have h1 := take_at (L := L) (n := n) h
  rw [h1.1, h1.2]
  unfold takeN
  by_cases e : q = b
  · rw [if_pos e, if_pos e]; omega
  · rw [if_neg e, if_neg e]
    by_cases e2 : q = i
    · rw [if_pos e2, if_pos e2]; omega
    · rw [if_neg e2, if_neg e2, if_neg e, if_neg e2]
theorem rest_step {p : PostD} {L : Nat → Int} {o : OrdD} {came : List Int} {m j : Nat} (hj : came.getD m 0 = j) : restN p L o came (m + 1) = if decide (0 < L j) && (meetsB o (oAt p j) && (decide (restN p L o came m < 0) || betterB (oAt p j) (oAt p (restN p L o came m).toNat))) then (j : Int) else restN p L o came m := by
  simp only [restN]; rw [hj, Int.toNat_natCast]
theorem meets_buy {o x : OrdD} (h : meetsB o x = true) : x.buy = !o.buy := by
  rcases meets_iff.1 h with ⟨h1, h2, _⟩ | ⟨h1, h2, _⟩ <;> rw [h1, h2] <;> rfl
end Go.Proofs.Yteaoclpikdmkiaa
