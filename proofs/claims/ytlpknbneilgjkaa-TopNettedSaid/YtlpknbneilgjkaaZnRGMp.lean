/- Joined texts: RRp, RRq, RGMp. -/
import Derived.Test.YtlpknbneilgjkaaZnRGs
import Derived.Test.YtlpknbneilgjkaaZnGTs
import Derived.Test.YtlpknbneilgjkaaZnRFr
import Derived.Test.YtlpknbneilgjkaaTL
import Derived.Test.YtlpknbneilgjkaaZnRRa
section
namespace Go.Proofs.Ytlpknbneilgjkaa.R
open Go Go.RowKit Go.Tl
set_option linter.unusedVariables false
set_option linter.unusedSimpArgs false
set_option maxRecDepth 100000
set_option maxHeartbeats 4000000
attribute [local irreducible] AWP AWL AOp PV LV AWT AWE
def listedB (b : BookD) (l : List Int) : Bool := decide (l.length = b.cons.length) && (List.range l.length).all fun k => inB (l.getD k 0) 0 (b.cons.getD k default).num
theorem listed_iff {b : BookD} {l : List Int} : listedB b l = true ↔ l.length = b.cons.length ∧ ∀ k, k < l.length → 0 ≤ l.getD k 0 ∧ l.getD k 0 ≤ (b.cons.getD k default).num := by
  simp only [listedB, Bool.and_eq_true, decide_eq_true_eq, List.all_eq_true, List.mem_range, inB_iff]
theorem listed_no {b : BookD} {l : List Int} {k : Nat} (hk : k < l.length) (h : inB (l.getD k 0) 0 (b.cons.getD k default).num = false) : listedB b l = false := by
  cases e : listedB b l
  · rfl
  · have := inB_iff.2 ((listed_iff.1 e).2 k hk)
    rw [h] at this; cases this
theorem listed_yes {b : BookD} {l : List Int} (hl : l.length = b.cons.length) (h : ∀ k, k < l.length → inB (l.getD k 0) 0 (b.cons.getD k default).num = true) : listedB b l = true :=
  listed_iff.2 ⟨hl, fun k hk => inB_iff.1 (h k hk)⟩
theorem listed_len {b : BookD} {l : List Int} (hl : l.length ≠ b.cons.length) : listedB b l = false := by
  cases e : listedB b l
  · rfl
  · exact absurd (listed_iff.1 e).1 hl
theorem rlisted_q {cp cp' : Bool} {b : BookD} {l : List Int} {r : Bool} (hl : l.length ≤ 1000) (hb : b.cons.length ≤ 1000) (h : listedB b l = r) : PCall Try.prog 67 [bookA cp b, .t (intsT cp' l)] (fun x => x = boolA r) := by
  subst h
  refine acall_of_awp T0 Try.func67 rfl rfl rfl ?_
  repeat (first | refine awp_seq ?_ | refine awp_region_lit rfl ?_)
  refine awl_hw (by first | exact wt_none rfl | exact wt_some' rfl rfl rfl rfl (by first | rfl | assumption | exact dT (by omega) | exact dF (by omega))) (st_box rfl rfl (by first | rfl | assumption) (by first | assumption | (simp only [cellsA]; rfl)) rfl rfl ?_)
  intro g2
  repeat (first | refine awp_seq ?_ | refine awp_block ?_ | refine awp_region_lit rfl ?_ | ((first | (show AWL _ _ _ (⟨_, .assign _, _, _, _, _⟩ :: _) _ _ _; refine awl_pw ?w (pv_assign rfl rfl) rfl rfl ?_)); case w => first | exact wt_none rfl | exact wt_some' rfl rfl rfl rfl (by first | rfl | assumption | exact dT (by omega) | exact dF (by omega))) | refine awl_nil ?_)
  refine awp_loop (fun m s h => ∃ (k : Nat), k ≤ l.length ∧ k ≤ b.cons.length ∧ m = l.length - k ∧ (∀ j, j < k → inB (l.getD j 0) 0 (b.cons.getD j default).num = true) ∧ s = [(1, .t (intsT cp' l)), (2, .v (ptrV g2)), (5, intA k)] ∧ h = [.cl g2 81 [intA b.houses, .t (consT cp b.cons)]]) ?_ ⟨0, Nat.zero_le _, Nat.zero_le _, rfl, (fun j hj => absurd hj (Nat.not_lt_zero _)), rfl, rfl⟩ (by first | ((repeat' (first | exact True.intro | refine ⟨rfl, ?_⟩)); all_goals fail) | fail) (by solve | repeat' constructor)
  rintro m s h ⟨k, hk1, hk2, rfl, hall, rfl, rfl⟩
  by_cases h1 : k < l.length
  case neg =>
    have d1 : decide ((k : Int) < l.length) = false := decide_eq_false (by omega)
    repeat (first | refine awp_seq ?_ | refine awp_region_lit rfl ?_ | refine awp_exit ?_ | refine awp_ret ?_ | with_reducible refine then_n ?_ | refine awp_cond_f rfl (by first | rfl | assumption | exact dF (by omega)) ?_ | ((first | (show AWL _ _ _ (⟨_, .move _, _, _, _, _⟩ :: _) _ _ _; refine awl_pw ?w (pv_move rfl rfl) rfl rfl ?_) | (show AWL _ _ _ (⟨_, .assign _, _, _, _, _⟩ :: _) _ _ _; refine awl_pw ?w (pv_assign rfl rfl) rfl rfl ?_) | (show AWL _ _ _ (⟨_, .load _ _, _, _, _, _⟩ :: _) _ _ _; refine awl_lw ?w (lv_cl1 T0 rfl rfl rfl (by solve | repeat' constructor) (by first | rfl | assumption)) rfl rfl rfl ?_) | (show AWL _ _ _ (⟨_, .fieldAddr _ _ _, _, _, _, _⟩ :: _) _ _ _; refine awl_pw ?w (pv_fa T0 rfl rfl rfl (by simp; rfl)) rfl rfl ?_) | (show AWL _ _ _ (⟨_, .binOp .lss _ _ _ _, _, _, _, _⟩ :: _) _ _ _; refine awl_pw ?w (pv_lss rfl rfl rfl) rfl rfl ?_) | (show AWL _ _ _ (⟨_, .binOp .eql _ _ _ _, _, _, _, _⟩ :: _) _ _ _; refine awl_pw ?w (pv_eql rfl rfl rfl) rfl rfl ?_) | (show AWL _ _ _ (⟨_, .call ⟨.builtin .len, _, _⟩, _, _, _, _⟩ :: _) _ _ _; refine awl_pw ?w (pv_len_t T0 rfl rfl rfl) rfl rfl ?_) | (show AWL _ _ _ (⟨_, .pick _ _ _, _, _, _, _⟩ :: _) _ _ _; refine awl_pw ?w (pv_pick_f rfl rfl (by first | rfl | assumption | exact dT (by omega) | exact dF (by omega)) rfl) rfl rfl ?_)); case w => first | exact wt_none rfl | exact wt_some' rfl rfl rfl rfl (by first | rfl | assumption | exact dT (by omega) | exact dF (by omega))) | refine awl_sk (wf_some rfl rfl rfl rfl (by first | rfl | assumption | exact dT (by omega) | exact dF (by omega))) rfl rfl ?_ | refine awl_nil ?_)
    refine body_p (.cons rfl .nil) ?_
    by_cases hq : l.length = b.cons.length
    · rw [listed_yes hq (fun j hj => hall j (by omega)), decide_eq_true (by omega)]; rfl
    · rw [listed_len hq, decide_eq_false (by omega)]; rfl
  have d1 : decide ((k : Int) < l.length) = true := decide_eq_true (by omega)
  by_cases h2 : k < b.cons.length
  case neg =>
    have d2 : decide ((k : Int) < b.cons.length) = false := decide_eq_false (by omega)
    repeat (first | refine awp_seq ?_ | refine awp_region_lit rfl ?_ | refine awp_exit ?_ | refine awp_ret ?_ | with_reducible refine then_n ?_ | refine awp_cond_f rfl (by first | rfl | assumption | exact dF (by omega)) ?_ | ((first | (show AWL _ _ _ (⟨_, .move _, _, _, _, _⟩ :: _) _ _ _; refine awl_pw ?w (pv_move rfl rfl) rfl rfl ?_) | (show AWL _ _ _ (⟨_, .assign _, _, _, _, _⟩ :: _) _ _ _; refine awl_pw ?w (pv_assign rfl rfl) rfl rfl ?_) | (show AWL _ _ _ (⟨_, .load _ _, _, _, _, _⟩ :: _) _ _ _; refine awl_lw ?w (lv_cl1 T0 rfl rfl rfl (by solve | repeat' constructor) (by first | rfl | assumption)) rfl rfl rfl ?_) | (show AWL _ _ _ (⟨_, .fieldAddr _ _ _, _, _, _, _⟩ :: _) _ _ _; refine awl_pw ?w (pv_fa T0 rfl rfl rfl (by simp; rfl)) rfl rfl ?_) | (show AWL _ _ _ (⟨_, .binOp .lss _ _ _ _, _, _, _, _⟩ :: _) _ _ _; refine awl_pw ?w (pv_lss rfl rfl rfl) rfl rfl ?_) | (show AWL _ _ _ (⟨_, .binOp .eql _ _ _ _, _, _, _, _⟩ :: _) _ _ _; refine awl_pw ?w (pv_eql rfl rfl rfl) rfl rfl ?_) | (show AWL _ _ _ (⟨_, .call ⟨.builtin .len, _, _⟩, _, _, _, _⟩ :: _) _ _ _; refine awl_pw ?w (pv_len_t T0 rfl rfl rfl) rfl rfl ?_) | (show AWL _ _ _ (⟨_, .pick _ _ _, _, _, _, _⟩ :: _) _ _ _; refine awl_pw ?w (pv_pick_t rfl rfl (by first | rfl | assumption | exact dT (by omega) | exact dF (by omega)) rfl) rfl rfl ?_)); case w => first | exact wt_none rfl | exact wt_some' rfl rfl rfl rfl (by first | rfl | assumption | exact dT (by omega) | exact dF (by omega))) | refine awl_nil ?_)
    refine body_p (.cons rfl .nil) ?_
    rw [listed_len (by omega), decide_eq_false (by omega)]; rfl
  have d2 : decide ((k : Int) < b.cons.length) = true := decide_eq_true (by omega)
  cases e : inB (l.getD k 0) 0 (b.cons.getD k default).num
  · repeat (first | refine awp_seq ?_ | refine awp_block ?_ | refine awp_region_lit rfl ?_ | refine awp_skip ?_ | with_reducible refine then_n ?_ | refine awp_cond_t rfl (by first | rfl | assumption | exact dT (by omega)) ?_ | ((first | (show AWL _ _ _ (⟨_, .move _, _, _, _, _⟩ :: _) _ _ _; refine awl_pw ?w (pv_move rfl rfl) rfl rfl ?_) | (show AWL _ _ _ (⟨_, .load _ _, _, _, _, _⟩ :: _) _ _ _; refine awl_lw ?w (lv_cl1 T0 rfl rfl rfl (by solve | repeat' constructor) (by first | rfl | assumption)) rfl rfl rfl ?_) | (show AWL _ _ _ (⟨_, .fieldAddr _ _ _, _, _, _, _⟩ :: _) _ _ _; refine awl_pw ?w (pv_fa T0 rfl rfl rfl (by simp; rfl)) rfl rfl ?_) | (show AWL _ _ _ (⟨_, .binOp .lss _ _ _ _, _, _, _, _⟩ :: _) _ _ _; refine awl_pw ?w (pv_lss rfl rfl rfl) rfl rfl ?_) | (show AWL _ _ _ (⟨_, .call ⟨.builtin .len, _, _⟩, _, _, _, _⟩ :: _) _ _ _; refine awl_pw ?w (pv_len_t T0 rfl rfl rfl) rfl rfl ?_) | (show AWL _ _ _ (⟨_, .pick _ _ _, _, _, _, _⟩ :: _) _ _ _; refine awl_pw ?w (pv_pick_t rfl rfl (by first | rfl | assumption | exact dT (by omega) | exact dF (by omega)) rfl) rfl rfl ?_)); case w => first | exact wt_none rfl | exact wt_some' rfl rfl rfl rfl (by first | rfl | assumption | exact dT (by omega) | exact dF (by omega))) | refine awl_nil ?_)
    refine awp_tree T0 [(0, 0), (1, 0), (2, 0), (3, 1), (4, 0), (5, 1), (6, 0), (7, 0), (8, 0), (9, 1), (10, 3), (11, 0)] (.op 0 0 (.op 1 0 (.op 2 0 (.op 3 1 (.op 4 0 (.op 5 1 (.op 6 0 (.op 7 0 (.op 8 0 (.op 9 1 (.op 10 3 (.op 11 0 .stop)))))))))))) _ rfl (by kernel_rfl) (SubH.refl _) ?_
    refine awt_po rfl (wt_none rfl) (pv_move rfl rfl) rfl rfl ?_
    refine awt_po rfl (wt_none rfl) (pv_move rfl rfl) rfl rfl ?_
    refine awt_po rfl (wt_none rfl) (pv_ix_t T0 rfl rfl rfl rfl (by omega) (by first | exact Int.toNat_natCast _ | rfl)) rfl rfl ?_
    refine awt_lo rfl (wt_none rfl) (lv_elt_sc T0 rfl rfl rfl rfl) rfl rfl rfl ?_
    refine awt_po rfl (wt_none rfl) (pv_fa T0 rfl rfl rfl (by simp; rfl)) rfl rfl ?_
    refine awt_lo rfl (wt_none rfl) (lv_cl1 T0 rfl rfl rfl (by solve | repeat' constructor) (by first | rfl | assumption)) rfl rfl rfl ?_
    refine awt_po rfl (wt_none rfl) (pv_move rfl rfl) rfl rfl ?_
    refine awt_po rfl (wt_none rfl) (pv_ix_t T0 rfl rfl rfl rfl (by omega) (by first | exact Int.toNat_natCast _ | rfl)) rfl rfl ?_
    refine awt_po rfl (wt_none rfl) (pv_fa_elt T0 rfl rfl rfl (by simp; rfl)) rfl rfl ?_
    refine awt_lo rfl (wt_none rfl) (lv_elt_sc T0 rfl rfl rfl rfl) rfl rfl rfl ?_
    refine awt_s (md := fun _ => True) rfl (wt_none rfl) (st_call T0 (in_q e) rfl rfl rfl rfl (by first | exact callee_lit | exact callee_v | exact callee_fn | assumption) (by solve | repeat' constructor) (by first | rfl | assumption) rfl ?_)
    rintro _ rfl
    refine awe_p rfl (wt_none rfl) (pv_not rfl rfl) rfl rfl ?_
    refine awe_end ?_
    repeat (first | refine awp_seq ?_ | refine awp_region_lit rfl ?_ | refine awp_ret ?_ | with_reducible refine then_n ?_ | with_reducible refine then_r ?_ | with_reducible refine blk_r ?_ | refine rnd_r ?_ | refine awp_cond_t rfl (by first | rfl | assumption | exact dT (by omega)) ?_ | ((first | (show AWL _ _ _ (⟨_, .assign _, _, _, _, _⟩ :: _) _ _ _; refine awl_pw ?w (pv_assign rfl rfl) rfl rfl ?_)); case w => first | exact wt_none rfl | exact wt_some' rfl rfl rfl rfl (by first | rfl | assumption | exact dT (by omega) | exact dF (by omega))) | refine awl_nil ?_)
    refine body_p (.cons rfl .nil) ?_
    rw [listed_no h1 e]; rfl
  · repeat (first | refine awp_seq ?_ | refine awp_block ?_ | refine awp_region_lit rfl ?_ | refine awp_skip ?_ | with_reducible refine then_n ?_ | refine awp_cond_t rfl (by first | rfl | assumption | exact dT (by omega)) ?_ | ((first | (show AWL _ _ _ (⟨_, .move _, _, _, _, _⟩ :: _) _ _ _; refine awl_pw ?w (pv_move rfl rfl) rfl rfl ?_) | (show AWL _ _ _ (⟨_, .load _ _, _, _, _, _⟩ :: _) _ _ _; refine awl_lw ?w (lv_cl1 T0 rfl rfl rfl (by solve | repeat' constructor) (by first | rfl | assumption)) rfl rfl rfl ?_) | (show AWL _ _ _ (⟨_, .fieldAddr _ _ _, _, _, _, _⟩ :: _) _ _ _; refine awl_pw ?w (pv_fa T0 rfl rfl rfl (by simp; rfl)) rfl rfl ?_) | (show AWL _ _ _ (⟨_, .binOp .lss _ _ _ _, _, _, _, _⟩ :: _) _ _ _; refine awl_pw ?w (pv_lss rfl rfl rfl) rfl rfl ?_) | (show AWL _ _ _ (⟨_, .call ⟨.builtin .len, _, _⟩, _, _, _, _⟩ :: _) _ _ _; refine awl_pw ?w (pv_len_t T0 rfl rfl rfl) rfl rfl ?_) | (show AWL _ _ _ (⟨_, .pick _ _ _, _, _, _, _⟩ :: _) _ _ _; refine awl_pw ?w (pv_pick_t rfl rfl (by first | rfl | assumption | exact dT (by omega) | exact dF (by omega)) rfl) rfl rfl ?_)); case w => first | exact wt_none rfl | exact wt_some' rfl rfl rfl rfl (by first | rfl | assumption | exact dT (by omega) | exact dF (by omega))) | refine awl_nil ?_)
    refine awp_tree T0 [(0, 0), (1, 0), (2, 0), (3, 1), (4, 0), (5, 1), (6, 0), (7, 0), (8, 0), (9, 1), (10, 3), (11, 0)] (.op 0 0 (.op 1 0 (.op 2 0 (.op 3 1 (.op 4 0 (.op 5 1 (.op 6 0 (.op 7 0 (.op 8 0 (.op 9 1 (.op 10 3 (.op 11 0 .stop)))))))))))) _ rfl (by kernel_rfl) (SubH.refl _) ?_
    refine awt_po rfl (wt_none rfl) (pv_move rfl rfl) rfl rfl ?_
    refine awt_po rfl (wt_none rfl) (pv_move rfl rfl) rfl rfl ?_
    refine awt_po rfl (wt_none rfl) (pv_ix_t T0 rfl rfl rfl rfl (by omega) (by first | exact Int.toNat_natCast _ | rfl)) rfl rfl ?_
    refine awt_lo rfl (wt_none rfl) (lv_elt_sc T0 rfl rfl rfl rfl) rfl rfl rfl ?_
    refine awt_po rfl (wt_none rfl) (pv_fa T0 rfl rfl rfl (by simp; rfl)) rfl rfl ?_
    refine awt_lo rfl (wt_none rfl) (lv_cl1 T0 rfl rfl rfl (by solve | repeat' constructor) (by first | rfl | assumption)) rfl rfl rfl ?_
    refine awt_po rfl (wt_none rfl) (pv_move rfl rfl) rfl rfl ?_
    refine awt_po rfl (wt_none rfl) (pv_ix_t T0 rfl rfl rfl rfl (by omega) (by first | exact Int.toNat_natCast _ | rfl)) rfl rfl ?_
    refine awt_po rfl (wt_none rfl) (pv_fa_elt T0 rfl rfl rfl (by simp; rfl)) rfl rfl ?_
    refine awt_lo rfl (wt_none rfl) (lv_elt_sc T0 rfl rfl rfl rfl) rfl rfl rfl ?_
    refine awt_s (md := fun _ => True) rfl (wt_none rfl) (st_call T0 (in_q e) rfl rfl rfl rfl (by first | exact callee_lit | exact callee_v | exact callee_fn | assumption) (by solve | repeat' constructor) (by first | rfl | assumption) rfl ?_)
    rintro _ rfl
    refine awe_p rfl (wt_none rfl) (pv_not rfl rfl) rfl rfl ?_
    refine awe_end ?_
    repeat (first | refine awp_region_lit rfl ?_ | refine awp_skip ?_ | with_reducible refine then_n ?_ | refine awp_cond_f rfl (by first | rfl | assumption | exact dF (by omega)) ?_ | ((first | (show AWL _ _ _ (⟨_, .move _, _, _, _, _⟩ :: _) _ _ _; refine awl_pw ?w (pv_move rfl rfl) rfl rfl ?_) | (show AWL _ _ _ (⟨_, .assign _, _, _, _, _⟩ :: _) _ _ _; refine awl_pw ?w (pv_assign rfl rfl) rfl rfl ?_) | (show AWL _ _ _ (⟨_, .binOp .add _ _ _ _, _, _, _, _⟩ :: _) _ _ _; refine awl_pw ?w (pv_add rfl rfl rfl (by first | assumption | exact wr64 (by omega))) rfl rfl ?_)); case w => first | exact wt_none rfl | exact wt_some' rfl rfl rfl rfl (by first | rfl | assumption | exact dT (by omega) | exact dF (by omega))) | refine awl_nil ?_)
    refine rnd_n _ _ _ ?_ ⟨k + 1, h1, h2, rfl, fun j hj => ?_, rfl, rfl⟩ (by first | ((repeat' (first | exact True.intro | refine ⟨rfl, ?_⟩)); all_goals fail) | fail) (by solve | repeat' constructor)
    · omega
    · by_cases e' : j = k
      · subst e'; exact e
      · exact hall j (by omega)
def offB (b : BookD) (l : List Int) : Bool := listedB b l && (netL b fun i => l.getD i 0).all fun n => decide (n = 0)
theorem listed_bd {b : BookD} {l : List Int} (hv : VBook b) (h : listedB b l = true) : ∀ i, i < b.cons.length → -1000000 ≤ l.getD i 0 ∧ l.getD i 0 ≤ 1000000 := fun i hi => by
  obtain ⟨e, h⟩ := listed_iff.1 h
  have := h i (by omega)
  have := hv.num i hi
  omega
theorem roff_p (cp' : Bool) (b : BookD) (l : List Int) (hv : VBook b) (hl : l.length ≤ 1000) : PCall Try.prog 28 [bookA false b, .t (intsT cp' l)] (fun r => r = boolA (offB b l)) := by
  have hlen := hv.len
  have hh := hv.houses
  refine acall_of_awp T0 Try.func28 rfl rfl rfl ?_
  unfold offB
  repeat (first | refine awp_seq ?_ | refine awp_region_lit rfl ?_)
  refine awl_hw (by first | exact wt_none rfl | exact wt_some' rfl rfl rfl rfl (by first | rfl | assumption | exact dT (by omega) | exact dF (by omega))) (st_box rfl rfl (by first | rfl | assumption) (by first | assumption | (simp only [cellsA]; rfl)) rfl rfl ?_)
  intro g2
  repeat (first | refine awp_seq ?_ | refine awp_region_lit rfl ?_ | ((first | (show AWL _ _ _ (⟨_, .move _, _, _, _, _⟩ :: _) _ _ _; refine awl_pw ?w (pv_move rfl rfl) rfl rfl ?_) | (show AWL _ _ _ (⟨_, .assign _, _, _, _, _⟩ :: _) _ _ _; refine awl_pw ?w (pv_assign rfl rfl) rfl rfl ?_) | (show AWL _ _ _ (⟨_, .load _ _, _, _, _, _⟩ :: _) _ _ _; refine awl_lw ?w (lv_cla T0 rfl rfl rfl (by solve | repeat' constructor) rfl) rfl rfl rfl ?_)); case w => first | exact wt_none rfl | exact wt_some' rfl rfl rfl rfl (by first | rfl | assumption | exact dT (by omega) | exact dF (by omega))) | refine awl_nil ?_)
  cases e : listedB b l
  · refine awl_hw (by first | exact wt_none rfl | exact wt_some' rfl rfl rfl rfl (by first | rfl | assumption | exact dT (by omega) | exact dF (by omega))) (st_call T0 (rlisted_q hl (by omega) e) rfl rfl rfl rfl (by first | exact callee_lit | exact callee_v | exact callee_fn | assumption) (by solve | repeat' constructor) (by first | rfl | assumption) rfl ?_)
    rintro _ rfl
    repeat (first | refine awp_seq ?_ | refine awp_region_lit rfl ?_ | refine awp_ret ?_ | with_reducible refine then_n ?_ | with_reducible refine then_r ?_ | refine awp_cond_t rfl (by first | rfl | assumption | exact dT (by omega)) ?_ | ((first | (show AWL _ _ _ (⟨_, .assign _, _, _, _, _⟩ :: _) _ _ _; refine awl_pw ?w (pv_assign rfl rfl) rfl rfl ?_) | (show AWL _ _ _ (⟨_, .unOp .not _ _, _, _, _, _⟩ :: _) _ _ _; refine awl_pw ?w (pv_not rfl rfl) rfl rfl ?_)); case w => first | exact wt_none rfl | exact wt_some' rfl rfl rfl rfl (by first | rfl | assumption | exact dT (by omega) | exact dF (by omega))) | refine awl_nil ?_)
    exact body_p (.cons rfl .nil) rfl
  have hll := (listed_iff.1 e).1
  have hnl : (netL b fun i => l.getD i 0).length = b.houses.toNat := netL_len
  refine awl_hw (by first | exact wt_none rfl | exact wt_some' rfl rfl rfl rfl (by first | rfl | assumption | exact dT (by omega) | exact dF (by omega))) (st_call T0 (rlisted_q hl (by omega) e) rfl rfl rfl rfl (by first | exact callee_lit | exact callee_v | exact callee_fn | assumption) (by solve | repeat' constructor) (by first | rfl | assumption) rfl ?_)
  rintro _ rfl
  repeat (first | refine awp_seq ?_ | refine awp_region_lit rfl ?_ | refine awp_skip ?_ | with_reducible refine then_n ?_ | refine awp_cond_f rfl (by first | rfl | assumption | exact dF (by omega)) ?_ | ((first | (show AWL _ _ _ (⟨_, .move _, _, _, _, _⟩ :: _) _ _ _; refine awl_pw ?w (pv_move rfl rfl) rfl rfl ?_) | (show AWL _ _ _ (⟨_, .load _ _, _, _, _, _⟩ :: _) _ _ _; refine awl_lw ?w (lv_cla T0 rfl rfl rfl (by solve | repeat' constructor) rfl) rfl rfl rfl ?_) | (show AWL _ _ _ (⟨_, .unOp .not _ _, _, _, _, _⟩ :: _) _ _ _; refine awl_pw ?w (pv_not rfl rfl) rfl rfl ?_)); case w => first | exact wt_none rfl | exact wt_some' rfl rfl rfl rfl (by first | rfl | assumption | exact dT (by omega) | exact dF (by omega))) | refine awl_nil ?_)
  refine awl_hw (by first | exact wt_none rfl | exact wt_some' rfl rfl rfl rfl (by first | rfl | assumption | exact dT (by omega) | exact dF (by omega))) (st_call T0 (net_p b cp' l hv hll (fun i hi => listed_bd hv e i (by omega))) rfl rfl rfl rfl (by first | exact callee_lit | exact callee_v | exact callee_fn | assumption) (by solve | repeat' constructor) (by first | rfl | assumption) rfl ?_)
  rintro _ rfl
  generalize (netL b fun i => l.getD i 0) = N at *
  repeat (first | refine awp_seq ?_ | refine awp_block ?_ | refine awp_region_lit rfl ?_ | ((first | (show AWL _ _ _ (⟨_, .assign _, _, _, _, _⟩ :: _) _ _ _; refine awl_pw ?w (pv_assign rfl rfl) rfl rfl ?_)); case w => first | exact wt_none rfl | exact wt_some' rfl rfl rfl rfl (by first | rfl | assumption | exact dT (by omega) | exact dF (by omega))) | refine awl_nil ?_)
  refine awp_loop (fun m s h => ∃ (k : Nat), (k : Int) ≤ b.houses ∧ m = b.houses.toNat - k ∧ (∀ j, j < k → N.getD j 0 = 0) ∧ s = [(2, .v (ptrV g2)), (5, .t (intsT true N)), (6, intA k)] ∧ h = [refB g2 b]) ?_ ⟨0, by omega, rfl, (fun j hj => absurd hj (Nat.not_lt_zero _)), rfl, rfl⟩ (by first | ((repeat' (first | exact True.intro | refine ⟨rfl, ?_⟩)); all_goals fail) | fail) (by solve | repeat' constructor)
  rintro m s h ⟨k, hk, rfl, hall, rfl, rfl⟩
  by_cases h1 : (k : Int) < b.houses
  case neg =>
    repeat (first | refine awp_seq ?_ | refine awp_region_lit rfl ?_ | refine awp_exit ?_ | refine awp_ret ?_ | with_reducible refine then_n ?_ | refine awp_cond_f rfl (by first | rfl | assumption | exact dF (by omega)) ?_ | ((first | (show AWL _ _ _ (⟨_, .move _, _, _, _, _⟩ :: _) _ _ _; refine awl_pw ?w (pv_move rfl rfl) rfl rfl ?_) | (show AWL _ _ _ (⟨_, .assign _, _, _, _, _⟩ :: _) _ _ _; refine awl_pw ?w (pv_assign rfl rfl) rfl rfl ?_) | (show AWL _ _ _ (⟨_, .load _ _, _, _, _, _⟩ :: _) _ _ _; refine awl_lw ?w (lv_cl1 T0 rfl rfl rfl (by solve | repeat' constructor) (by first | rfl | assumption)) rfl rfl rfl ?_) | (show AWL _ _ _ (⟨_, .fieldAddr _ _ _, _, _, _, _⟩ :: _) _ _ _; refine awl_pw ?w (pv_fa T0 rfl rfl rfl (by simp; rfl)) rfl rfl ?_) | (show AWL _ _ _ (⟨_, .binOp .lss _ _ _ _, _, _, _, _⟩ :: _) _ _ _; refine awl_pw ?w (pv_lss rfl rfl rfl) rfl rfl ?_)); case w => first | exact wt_none rfl | exact wt_some' rfl rfl rfl rfl (by first | rfl | assumption | exact dT (by omega) | exact dF (by omega))) | refine awl_nil ?_)
    refine body_p (.cons rfl .nil) ?_
    have : N.all (fun n => decide (n = 0)) = true := (all_getD (d := (0 : Int))).2 fun j hj => decide_eq_true (hall j (by omega))
    rw [this]; rfl
  have hkl : k < N.length := by omega
  by_cases h2 : N.getD k 0 = 0
  · have d1 : decide (N.getD k 0 ≠ 0) = false := decide_eq_false (by simpa using h2)
    repeat (first | refine awp_seq ?_ | refine awp_block ?_ | refine awp_region_lit rfl ?_ | refine awp_skip ?_ | with_reducible refine then_n ?_ | refine awp_cond_t rfl (by first | rfl | assumption | exact dT (by omega)) ?_ | refine awp_cond_f rfl (by first | rfl | assumption | exact dF (by omega)) ?_ | ((first | (show AWL _ _ _ (⟨_, .move _, _, _, _, _⟩ :: _) _ _ _; refine awl_pw ?w (pv_move rfl rfl) rfl rfl ?_) | (show AWL _ _ _ (⟨_, .assign _, _, _, _, _⟩ :: _) _ _ _; refine awl_pw ?w (pv_assign rfl rfl) rfl rfl ?_) | (show AWL _ _ _ (⟨_, .load _ _, _, _, _, _⟩ :: _) _ _ _; refine awl_lw ?w (lv_cl1 T0 rfl rfl rfl (by solve | repeat' constructor) (by first | rfl | assumption)) rfl rfl rfl ?_) | (show AWL _ _ _ (⟨_, .load _ _, _, _, _, _⟩ :: _) _ _ _; refine awl_lw ?w (lv_elt_sc T0 rfl rfl rfl rfl) rfl rfl rfl ?_) | (show AWL _ _ _ (⟨_, .fieldAddr _ _ _, _, _, _, _⟩ :: _) _ _ _; refine awl_pw ?w (pv_fa T0 rfl rfl rfl (by simp; rfl)) rfl rfl ?_) | (show AWL _ _ _ (⟨_, .indexAddr _ _ _, _, _, _, _⟩ :: _) _ _ _; refine awl_pw ?w (pv_ix_t T0 rfl rfl rfl rfl (by omega) (by first | exact Int.toNat_natCast _ | rfl)) rfl rfl ?_) | (show AWL _ _ _ (⟨_, .binOp .add _ _ _ _, _, _, _, _⟩ :: _) _ _ _; refine awl_pw ?w (pv_add rfl rfl rfl (by first | assumption | exact wr64 (by omega))) rfl rfl ?_) | (show AWL _ _ _ (⟨_, .binOp .lss _ _ _ _, _, _, _, _⟩ :: _) _ _ _; refine awl_pw ?w (pv_lss rfl rfl rfl) rfl rfl ?_) | (show AWL _ _ _ (⟨_, .binOp .neq _ _ _ _, _, _, _, _⟩ :: _) _ _ _; refine awl_pw ?w (pv_neq rfl rfl rfl) rfl rfl ?_)); case w => first | exact wt_none rfl | exact wt_some' rfl rfl rfl rfl (by first | rfl | assumption | exact dT (by omega) | exact dF (by omega))) | refine awl_nil ?_)
    refine rnd_n _ _ _ ?_ ⟨k + 1, by omega, rfl, fun j hj => ?_, rfl, rfl⟩ (by first | ((repeat' (first | exact True.intro | refine ⟨rfl, ?_⟩)); all_goals fail) | fail) (by solve | repeat' constructor)
    · omega
    · by_cases e' : j = k
      · subst e'; exact h2
      · exact hall j (by omega)
  · have d1 : decide (N.getD k 0 ≠ 0) = true := decide_eq_true h2
    repeat (first | refine awp_seq ?_ | refine awp_block ?_ | refine awp_region_lit rfl ?_ | refine awp_skip ?_ | refine awp_ret ?_ | with_reducible refine then_n ?_ | with_reducible refine then_r ?_ | with_reducible refine blk_r ?_ | refine rnd_r ?_ | refine awp_cond_t rfl (by first | rfl | assumption | exact dT (by omega)) ?_ | ((first | (show AWL _ _ _ (⟨_, .move _, _, _, _, _⟩ :: _) _ _ _; refine awl_pw ?w (pv_move rfl rfl) rfl rfl ?_) | (show AWL _ _ _ (⟨_, .assign _, _, _, _, _⟩ :: _) _ _ _; refine awl_pw ?w (pv_assign rfl rfl) rfl rfl ?_) | (show AWL _ _ _ (⟨_, .load _ _, _, _, _, _⟩ :: _) _ _ _; refine awl_lw ?w (lv_cl1 T0 rfl rfl rfl (by solve | repeat' constructor) (by first | rfl | assumption)) rfl rfl rfl ?_) | (show AWL _ _ _ (⟨_, .load _ _, _, _, _, _⟩ :: _) _ _ _; refine awl_lw ?w (lv_elt_sc T0 rfl rfl rfl rfl) rfl rfl rfl ?_) | (show AWL _ _ _ (⟨_, .fieldAddr _ _ _, _, _, _, _⟩ :: _) _ _ _; refine awl_pw ?w (pv_fa T0 rfl rfl rfl (by simp; rfl)) rfl rfl ?_) | (show AWL _ _ _ (⟨_, .indexAddr _ _ _, _, _, _, _⟩ :: _) _ _ _; refine awl_pw ?w (pv_ix_t T0 rfl rfl rfl rfl (by omega) (by first | exact Int.toNat_natCast _ | rfl)) rfl rfl ?_) | (show AWL _ _ _ (⟨_, .binOp .lss _ _ _ _, _, _, _, _⟩ :: _) _ _ _; refine awl_pw ?w (pv_lss rfl rfl rfl) rfl rfl ?_) | (show AWL _ _ _ (⟨_, .binOp .neq _ _ _ _, _, _, _, _⟩ :: _) _ _ _; refine awl_pw ?w (pv_neq rfl rfl rfl) rfl rfl ?_)); case w => first | exact wt_none rfl | exact wt_some' rfl rfl rfl rfl (by first | rfl | assumption | exact dT (by omega) | exact dF (by omega))) | refine awl_nil ?_)
    refine body_p (.cons rfl .nil) ?_
    have : N.all (fun n => decide (n = 0)) = false := by
      cases e' : N.all fun n => decide (n = 0)
      · rfl
      · exact absurd (of_decide_eq_true ((all_getD (d := (0 : Int))).1 e' k hkl)) h2
    rw [this]; rfl
end Go.Proofs.Ytlpknbneilgjkaa.R
end
section
namespace Go.Proofs.Ytlpknbneilgjkaa.R
open Go Go.RowKit Go.Tl
set_option linter.unusedVariables false
set_option linter.unusedSimpArgs false
set_option maxRecDepth 100000
set_option maxHeartbeats 4000000
attribute [local irreducible] AWP AWL AOp PV LV AWT AWE
def highB (b : BookD) (hs : List Int) : Bool := decide ((hs.length : Int) = b.houses) && hs.all fun x => inB x (-10) 10
def upN (c : ConD) (hs : List Int) : Int := c.num * max 0 (1 + hs.getD c.frm.toNat 0 - hs.getD c.to.toNat 0)
def provN (b : BookD) (hs : List Int) : Nat → Int
  | 0 => 0
  | k + 1 => provN b hs k + upN (b.cons.getD k default) hs
theorem high_iff {b : BookD} {hs : List Int} : highB b hs = true ↔ (hs.length : Int) = b.houses ∧ ∀ k, k < hs.length → -10 ≤ hs.getD k 0 ∧ hs.getD k 0 ≤ 10 := by
  simp only [highB, Bool.and_eq_true, decide_eq_true_eq, all_getD (d := (0 : Int)), inB_iff]
section
variable {c : ConD} {hs : List Int} {a : Int} {cp : Bool} {g : Nat} {x : Ent} {u2 u8 : AV} {jf jt : Nat}
end
end Go.Proofs.Ytlpknbneilgjkaa.R
end
section
section
namespace Go.Tl
open Go Go.RowKit
set_option linter.unusedVariables false
set_option linter.unusedSimpArgs false
section
variable {κ : Type} [DecidableEq κ]
variable {P : Program} {mt : TypeId} {N : Nat} {o : Oper} {md : Nat → Prop} {s : Slots} {h : List Ent} {K : Slots → List Ent → Prop}
end
end Go.Tl
end
section
namespace Go.Tl
open Go Go.RowKit
set_option linter.unusedVariables false
set_option linter.unusedSimpArgs false
section
variable {κ : Type} [DecidableEq κ]
def updF (f : κ → AV) (k : κ) (y : AV) : κ → AV := fun q => if q = k then y else f q
theorem look_upd (y : AV) (k q : κ) : ∀ l : List (κ × AV), lookG (updG l k y) q = if q = k then some y else lookG l q
  | [] => by simp [updG, lookG]
  | (k', y') :: r => by
    have ih := look_upd y k q r
    by_cases c : k = k'
    · subst c
      simp only [updG, lookG, if_true]
      by_cases e : q = k
      · rw [if_pos e, if_pos e]
      · rw [if_neg e, if_neg e, if_neg e]
    · simp only [updG, lookG, if_neg c]
      by_cases e : q = k'
      · subst e
        rw [if_pos rfl, if_neg (fun h => c h.symm), if_pos rfl]
      · rw [if_neg e, if_neg e, ih]
theorem look_snoc (y : AV) (k q : κ) : ∀ l : List (κ × AV), lookG l k = none → lookG (l ++ [(k, y)]) q = if q = k then some y else lookG l q
  | [], _ => by simp [lookG]
  | (k', y') :: r, h => by
    simp only [lookG] at h
    by_cases c : k = k'
    · rw [if_pos c] at h; cases h
    rw [if_neg c] at h
    have ih := look_snoc y k q r h
    simp only [List.cons_append, lookG]
    by_cases e : q = k'
    · subst e
      rw [if_pos rfl, if_neg (fun h => c h.symm), if_pos rfl]
    · rw [if_neg e, if_neg e, ih]
theorem find_snoc (k : κ) (kv : κ → Value) {e : MapEntry} : ∀ {ks : List κ} {es : List MapEntry} (j : Nat), KRel kv ks es → findG k ks es j = none → findG k (ks ++ [k]) (es ++ [e]) j = some (j + es.length, e.val)
  | _, _, j, .nil, _ => by simp [findG]
  | k' :: ks, e' :: es, j, .cons hk h, hf => by
    simp only [findG] at hf
    by_cases c : k = k'
    · rw [if_pos c] at hf; cases hf
    rw [if_neg c] at hf
    have := find_snoc k kv (e := e) (j + 1) h hf
    simp only [List.cons_append, findG, if_neg c, List.length_cons]
    rw [this, show j + 1 + es.length = j + (es.length + 1) by omega]
theorem arr_find (es : Array MapEntry) (p : MapEntry → Bool) : es.findIdx? p = es.toList.findIdx? p := by cases es; simp
structure Borns (es : List MapEntry) (clock : Nat) : Prop where
  lt : ∀ e ∈ es, e.born < clock
  nd : (es.map (·.born)).Nodup
theorem borns_snoc {es : List MapEntry} {clock : Nat} (h : Borns es clock) {e : MapEntry} (he : e.born = clock) : Borns (es ++ [e]) (clock + 1) := by
  refine ⟨fun x hx => ?_, ?_⟩
  · rcases List.mem_append.1 hx with hx | hx
    · have := h.lt x hx; omega
    · obtain rfl := List.mem_singleton.1 hx; omega
  · rw [List.map_append, List.nodup_append]
    refine ⟨h.nd, by simp, fun a ha b hb => ?_⟩
    obtain ⟨x, hx, rfl⟩ := List.mem_map.1 ha
    have := h.lt x hx
    simp at hb
    omega
theorem borns_set {es : List MapEntry} {clock i : Nat} (h : Borns es clock) {e e' : MapEntry} (hi : es[i]? = some e) (he : e'.born = e.born) : Borns (es.set i e') clock := by
  have hm : (es.set i e').map (·.born) = es.map (·.born) := by
    refine List.ext_getElem? fun j => ?_
    rw [List.getElem?_map, List.getElem?_map, List.getElem?_set]
    by_cases c : i = j
    · subst c
      obtain ⟨hl, hv⟩ := List.getElem?_eq_some_iff.1 hi
      rw [if_pos rfl, if_pos hl, hi]
      simp [he]
    · rw [if_neg c]
  refine ⟨fun x hx => ?_, by rw [hm]; exact h.nd⟩
  rcases List.mem_or_eq_of_mem_set hx with hx | hx
  · exact h.lt x hx
  · subst hx
    rw [he]
    exact h.lt e (List.mem_of_getElem? hi)
theorem find_born {n : Nat} : ∀ {es : List MapEntry} {i : Nat} {e : MapEntry}, (es.map (·.born)).Nodup → es[i]? = some e → e.born = n → es.findIdx? (fun e => (e.born : Int) == (n : Int)) = some i
  | [], i, e, _, hi, _ => by simp at hi
  | x :: es, 0, e, _, hi, hn => by
    simp at hi
    subst hi
    simp [List.findIdx?_cons, hn]
  | x :: es, i + 1, e, hd, hi, hn => by
    simp only [List.map_cons, List.nodup_cons] at hd
    simp only [List.getElem?_cons_succ] at hi
    have h1 := find_born hd.2 hi hn
    have hne : x.born ≠ n := fun h => hd.1 (List.mem_map.2 ⟨e, List.mem_of_getElem? hi, by rw [hn, h]⟩)
    have : ((x.born : Int) == (n : Int)) = false := by simpa using (fun h => hne (Int.ofNat.inj h))
    simp [List.findIdx?_cons, this, h1]
def mapFO (kv : κ → Value) (z : AV) (g : Nat) (f : κ → AV) (st : Option (κ × Nat)) : Ob where
  fp := fun b => b = g
  Φ := fun w S => ∃ es clock l, w.heap[g]? = some (.map es clock) ∧ GRel w S kv l es.toList ∧ (∀ k, (lookG l k).getD z = f k) ∧ Borns es.toList clock ∧
    ∀ k n, st = some (k, n) → ∃ i e, findG k (l.map (·.1)) es.toList 0 = some (i, e.val) ∧ es.toList[i]? = some e ∧ e.born = n
  lt := fun ⟨es, c, l, h, _⟩ b hb => by rw [hb]; exact (Array.getElem?_eq_some_iff.1 h).1
  keep := fun ⟨es, c, l, h, hr, hrest⟩ _ _ _ _ hS hw hg => ⟨es, c, l, (hg g rfl).trans h, hr.mono hS hw, hrest⟩
abbrev mapF (kv : κ → Value) (z : AV) (g : Nat) (f : κ → AV) (st : Option (κ × Nat)) : Ent := .ob (mapFO kv z g f st)
variable {P : Program} {mt : TypeId} {N : Nat} {o : Oper} {md : Nat → Prop} {s : Slots} {h : List Ent} {K : Slots → List Ent → Prop}
theorem lv_lookupF (M : MG P mt κ) {m x : Operand} {g : Nat} {k : κ} {kA : AV} {f : κ → AV} {y : AV} {st : Option (κ × Nat)} (ho : o.op = .lookup mt m x false) (hm : evA s m = some (.v (.map (some g)))) (hk : evA s x = some kA) (hka : M.ka k = kA) (hmem : Mem1 (mapF M.kv M.zA g f st) h)
    (hy : f k = y) : LV P o s h (some (mapF M.kv M.zA g f st)) y := fun w S a hs hh => by
  subst hy hka
  obtain ⟨es, clock, l, hg, hr, hf', _⟩ := hh.ent _ hmem.mem
  have hkv := M.inv _ _ _ _ (hs.eval hk)
  have hf := fun w => M.find k _ _ w hr.keys
  have hfk := hf' k
  rcases findsG hr k 0 with ⟨h1, _, h3⟩ | ⟨i, e, y1, h1, h2, h3, h4, h5, _⟩
  · refine ⟨M.z, g, fun w' hw' => ?_, ?_, .inr ⟨_, rfl, hmem.mem, rfl⟩⟩
    · rw [hg] at hw'
      have hc := fun e w => M.chk e k w
      simp [execOp, ho, hs.lit hm, hkv, Instr.lookup, run_underlying M.hm, MapKept.run_getObj_map hw', hc, hf, h3, M.hz, Result.andThen]
    · rw [← hfk, h1]
      exact M.hzA w S
  · refine ⟨e.val, g, fun w' hw' => ?_, ?_, .inr ⟨_, rfl, hmem.mem, rfl⟩⟩
    · rw [hg] at hw'
      have hc := fun e w => M.chk e k w
      simp [execOp, ho, hs.lit hm, hkv, Instr.lookup, run_underlying M.hm, MapKept.run_getObj_map hw', hc, hf, h5, Result.andThen]
    · rw [← hfk, h1]
      exact h4
theorem aop_makeMapF (kv : κ → Value) (z : AV) {d : Nat} (ho : o.op = .makeMap mt none) (hd : o.dst = some d) (hN : Nat.blt d N = true) (hK : ∀ g, K ((d, .v (.map (some g))) :: s) (mapF kv z g (fun _ => z) none :: h)) : AOp P N o md s h K := fun B w S a hs Kr Qr hk => by
  have hrun : (execOp a.eval o).run P w = .ok (.value (.map (some w.heap.size))) (w.alloc (.map #[] 0)) := by
    simp [execOp, ho, Instr.makeMap]
  unfold wpX
  rw [hd] at hk
  rw [hrun, Oper.uponIn_value, hd]
  have hold := fun b hb => alloc_old w (.map #[] 0) b hb
  refine hk _ _ S _ _ (hK w.heap.size) ((hs.push (w' := w.alloc (.map #[] 0)) (grw_alloc _ _) (e := mapF kv z w.heap.size (fun _ => z) none) ⟨#[], 0, [], by rw [heap_alloc_new], .nil, fun _ => rfl, ⟨by simp, by simp⟩, fun k n h => (by cases h)⟩ (fun g hg => by have : g = w.heap.size := hg; omega)).put (.v _) (blt_lt hN)) (upd_push (by simp) hold)
theorem fin_mapF {B : Base} {w : World} {S : Nat → Prop} {a : Act} {kv : κ → Value} {z : AV} {g : Nat} {f f' : κ → AV} {st st' : Option (κ × Nat)} {h' : List Ent} (hs : Sim B N w S s h a) (hp : Repl h (mapF kv z g f st) (mapF kv z g f' st') h') (hmd : md g) {es' : Array MapEntry} {c' : Nat} {l' : List (κ × AV)}
    (h1 : GRel w S kv l' es'.toList) (h2 : ∀ k, (lookG l' k).getD z = f' k) (h3 : Borns es'.toList c') (h4 : ∀ k n, st' = some (k, n) → ∃ i e, findG k (l'.map (·.1)) es'.toList 0 = some (i, e.val) ∧ es'.toList[i]? = some e ∧ e.born = n) :
    Sim B N (w.putObj g (.map es' c')) S s h' a ∧ Upd w S (w.putObj g (.map es' c')) S md := by
  have hmem : mapF kv z g f st ∈ h := by obtain ⟨p, q, rfl, _⟩ := hp.split; simp
  obtain ⟨es, clock, l, hg, _⟩ := hs.heap.ent _ hmem
  have hlt : g < w.heap.size := (Array.getElem?_eq_some_iff.1 hg).1
  have hoth : ∀ b, b ≠ g → (w.putObj g (.map es' c')).heap[b]? = w.heap[b]? := fun b hb => World.putObj_heap_other hb
  have hgrw : Grw w (w.putObj g (.map es' c')) (mapF kv z g f st).blk := ⟨rfl, rfl, rfl, by simp, fun b hb hn => hoth b (fun e => hn e)⟩
  exact ⟨hs.repl hp hgrw ⟨es', c', l', World.putObj_heap_same hlt, h1.mono (fun _ h => h) (fun b hb => hoth b (fun e => hs.heap.off _ hmem g rfl (e ▸ hb))), h2, h3, h4⟩ (fun g' hg' => .inl hg'), ⟨by simp, fun b hb hn => hoth b (fun e => hn (e ▸ hmd)), fun _ h => h⟩⟩
theorem mod_set {es : Array MapEntry} {i : Nat} {e : MapEntry} (h2 : es.toList[i]? = some e) (q : MapEntry → MapEntry) : (es.modify i q).toList = es.toList.set i (q e) := by
  rw [Array.toList_modify]
  apply List.ext_getElem?
  intro j
  rw [List.getElem?_modify, List.getElem?_set]
  by_cases hj : i = j
  · subst hj
    have : i < es.toList.length := (List.getElem?_eq_some_iff.1 h2).1
    rw [h2]
    simp [show i < es.size by simpa using this]
  · simp [hj]
theorem look_updF {l : List (κ × AV)} {z : AV} {f : κ → AV} (h : ∀ k, (lookG l k).getD z = f k) (k : κ) (y : AV) : ∀ q, (lookG (updG l k y) q).getD z = updF f k y q := fun q => by
  rw [look_upd]
  unfold updF
  by_cases c : q = k
  · rw [if_pos c, if_pos c]; rfl
  · rw [if_neg c, if_neg c]; exact h q
theorem aop_mapUpdateF (M : MG P mt κ) {m kx x : Operand} {g : Nat} {k : κ} {kA : AV} {y : AV} {f f' : κ → AV} {h' : List Ent} (ho : o.op = .mapUpdate mt m kx x) (hm : evA s m = some (.v (.map (some g)))) (hk : evA s kx = some kA) (hka : M.ka k = kA) (hx : evA s x = some y) (hd : o.dst = none)
    (hp : Repl h (mapF M.kv M.zA g f none) (mapF M.kv M.zA g f' none) h') (hl : updF f k y = f') (hmd : md g) (hK : K s h') : AOp P N o md s h K := fun B w S a hs Kr Qr hk0 => by
  subst hl hka
  have hmem : mapF M.kv M.zA g f none ∈ h := by obtain ⟨p, q, rfl, _⟩ := hp.split; simp
  obtain ⟨es, clock, l, hg, hr, hlf, hb, _⟩ := hs.heap.ent _ hmem
  have hkv := M.inv _ _ _ _ (hs.slots.eval hk)
  have hf := fun w => M.find k _ _ w hr.keys
  have hxv := hs.slots.eval hx
  generalize hev : a.eval x = v at *
  have hc := fun e w => M.chk e k w
  have hbk := M.bits k
  unfold wpX
  rw [hd] at hk0
  rcases findsG hr k 0 with ⟨h1, h2, h3⟩ | ⟨i, e, y1, h1, h2, h3, h4, h5, h6⟩
  · have hrun : (execOp a.eval o).run P w = .ok .skip (w.putObj g (.map (es.push { key := M.kv k, val := v, born := clock }) (clock + 1))) := by
      simp [execOp, ho, hs.slots.lit hm, hkv, hev, Instr.mapUpdate, run_underlying M.hm, MapKept.run_getObj_map hg, hc, hf, h3, MapKept.run_setObj_map _ hg, Result.andThen, World.putObj]
    rw [hrun, Oper.uponIn_skip, hd]
    obtain ⟨f1, f2⟩ := fin_mapF hs hp hmd (es' := es.push { key := M.kv k, val := v, born := clock }) (c' := clock + 1) (l' := updG l k y) (by rw [h2, Array.toList_push]; exact hr.push rfl hxv) (look_updF hlf k y) (by rw [Array.toList_push]; exact borns_snoc hb rfl) (fun k n h => (by cases h))
    exact hk0 _ _ S _ _ hK f1.putNone f2
  · have hi' : es[i]? = some e := by simpa using h2
    rw [Nat.zero_add] at h5
    have hrun : (execOp a.eval o).run P w = .ok .skip (w.putObj g (.map (es.modify i fun e => { e with key := M.kv k, val := v }) clock)) := by
      simp [execOp, ho, hs.slots.lit hm, hkv, hev, Instr.mapUpdate, run_underlying M.hm, MapKept.run_getObj_map hg, hc, hf, h5, hi', h3, Instr.keyThatStays, hbk, MapKept.run_setObj_map _ hg, Result.andThen, World.putObj]
    rw [hrun, Oper.uponIn_skip, hd]
    have hmod := mod_set h2 (fun e => { e with key := M.kv k, val := v })
    obtain ⟨f1, f2⟩ := fin_mapF hs hp hmd (es' := es.modify i fun e => { e with key := M.kv k, val := v }) (c' := clock) (l' := updG l k y) (by rw [hmod]; exact h6 y v hxv _ rfl rfl) (look_updF hlf k y) (by rw [hmod]; exact borns_set hb h2 rfl) (fun k n h => (by cases h))
    exact hk0 _ _ S _ _ hK f1.putNone f2
theorem aop_mapEntryF (M : MG P mt κ) {m kx : Operand} {g d : Nat} {k : κ} {kA : AV} {f : κ → AV} {h' : Nat → List Ent} (ho : o.op = .mapEntry mt m kx) (hm : evA s m = some (.v (.map (some g)))) (hk : evA s kx = some kA) (hka : M.ka k = kA) (hd : o.dst = some d) (hN : Nat.blt d N = true)
    (hp : ∀ n : Nat, Repl h (mapF M.kv M.zA g f none) (mapF M.kv M.zA g f (some (k, n))) (h' n)) (hmd : md g) (hK : ∀ n : Nat, K ((d, .tup [f k, .v (.int .i64 n)]) :: s) (h' n)) : AOp P N o md s h K := fun B w S a hs Kr Qr hk0 => by
  subst hka
  have hmem : mapF M.kv M.zA g f none ∈ h := by obtain ⟨p, q, rfl, _⟩ := (hp 0).split; simp
  obtain ⟨es, clock, l, hg, hr, hlf, hb, _⟩ := hs.heap.ent _ hmem
  have hkv := M.inv _ _ _ _ (hs.slots.eval hk)
  have hf := fun w => M.find k _ _ w hr.keys
  have hc := fun e w => M.chk e k w
  have hbk := M.bits k
  have hfk := hlf k
  unfold wpX
  rw [hd] at hk0
  rcases findsG hr k 0 with ⟨h1, h2, h3⟩ | ⟨i, e, y1, h1, h2, h3, h4, h5, h6⟩
  · have hrun : (execOp a.eval o).run P w = .ok (.value (.tuple #[M.z, .int .i64 clock])) (w.putObj g (.map (es.push { key := M.kv k, val := M.z, born := clock }) (clock + 1))) := by
      simp [execOp, ho, hs.slots.lit hm, hkv, Instr.mapEntry, run_underlying M.hm, MapKept.run_getObj_map hg, hc, hf, h3, M.hz, MapKept.run_setObj_map _ hg, Result.andThen, World.putObj, goInt]
    rw [hrun, Oper.uponIn_value, hd]
    have hzf : f k = M.zA := by rw [← hfk, h1]; rfl
    obtain ⟨f1, f2⟩ := fin_mapF hs (hp clock) hmd (es' := es.push { key := M.kv k, val := M.z, born := clock }) (c' := clock + 1) (l' := l ++ [(k, M.zA)]) (by rw [Array.toList_push]; exact hr.push rfl (M.hzA _ _)) (fun q => by
        rw [look_snoc _ _ _ _ h1]
        by_cases c : q = k
        · rw [if_pos c, c, hzf]; rfl
        · rw [if_neg c]; exact hlf q) (by rw [Array.toList_push]; exact borns_snoc hb rfl) (fun k' n h => by
        cases h
        refine ⟨es.toList.length, { key := M.kv k, val := M.z, born := clock }, ?_, by rw [Array.toList_push]; simp, rfl⟩
        rw [List.map_append, Array.toList_push]
        have := find_snoc k M.kv (e := { key := M.kv k, val := M.z, born := clock }) 0 hr.keys h3
        rw [Nat.zero_add] at this
        exact this)
    refine hk0 _ _ S _ _ (hK clock) (f1.put (.tup (vs := [M.z, .int .i64 clock]) rfl fun j x y hx hy => ?_) (blt_lt hN)) f2
    match j with
    | 0 => simp at hx hy; subst hx hy; rw [hzf]; exact M.hzA _ _
    | 1 => simp at hx hy; subst hx hy; exact .v _
    | j + 2 => simp at hx
  · have hi' : es[i]? = some e := by simpa using h2
    rw [Nat.zero_add] at h5
    have hrun : (execOp a.eval o).run P w = .ok (.value (.tuple #[e.val, .int .i64 e.born])) (w.putObj g (.map (es.modify i fun e => { e with key := M.kv k }) clock)) := by
      simp [execOp, ho, hs.slots.lit hm, hkv, Instr.mapEntry, run_underlying M.hm, MapKept.run_getObj_map hg, hc, hf, h5, hi', h3, Instr.keyThatStays, hbk, MapKept.run_setObj_map _ hg, Result.andThen, World.putObj, goInt]
    rw [hrun, Oper.uponIn_value, hd]
    have hmod := mod_set h2 (fun e => { e with key := M.kv k })
    have hsame : es.toList.set i { e with key := M.kv k } = es.toList := by
      rw [← h3]
      obtain ⟨hl, hv⟩ := List.getElem?_eq_some_iff.1 h2
      rw [← hv]
      exact List.set_getElem_self _
    rw [hsame] at hmod
    obtain ⟨f1, f2⟩ := fin_mapF hs (hp e.born) hmd (es' := es.modify i fun e => { e with key := M.kv k }) (c' := clock) (l' := l) (by rw [hmod]; exact hr) hlf (by rw [hmod]; exact hb) (fun k' n h => by
        cases h
        rw [hmod]
        exact ⟨i, e, h5, h2, rfl⟩)
    refine hk0 _ _ S _ _ (hK e.born) (f1.put (.tup (vs := [e.val, .int .i64 e.born]) rfl fun j x y hx hy => ?_) (blt_lt hN)) f2
    have hfy : f k = y1 := by rw [← hfk, h1]; rfl
    match j with
    | 0 =>
      simp at hx hy; subst hx hy; rw [hfy]
      exact h4.mono (fun _ h => h) (fun b hb => World.putObj_heap_other (fun e => hs.heap.off _ hmem g rfl (e ▸ hb)))
    | 1 => simp at hx hy; subst hx hy; exact .v _
    | j + 2 => simp at hx
theorem aop_entryStoreF (M : MG P mt κ) {m sx x : Operand} {g n : Nat} {k : κ} {y : AV} {f f' : κ → AV} {h' : List Ent} (ho : o.op = .entryStore mt m sx x) (hm : evA s m = some (.v (.map (some g)))) (hn : evA s sx = some (.v (.int .i64 n))) (hx : evA s x = some y) (hd : o.dst = none)
    (hp : Repl h (mapF M.kv M.zA g f (some (k, n))) (mapF M.kv M.zA g f' none) h') (hl : updF f k y = f') (hmd : md g) (hK : K s h') : AOp P N o md s h K := fun B w S a hs Kr Qr hk0 => by
  subst hl
  have hmem : mapF M.kv M.zA g f (some (k, n)) ∈ h := by obtain ⟨p, q, rfl, _⟩ := hp.split; simp
  obtain ⟨es, clock, l, hg, hr, hlf, hb, hst⟩ := hs.heap.ent _ hmem
  obtain ⟨i0, e0, t1, t2, t3⟩ := hst k n rfl
  have hxv := hs.slots.eval hx
  have hnv := hs.slots.lit hn
  generalize hev : a.eval x = v at *
  unfold wpX
  rw [hd] at hk0
  rcases findsG hr k 0 with ⟨h1, h2, h3⟩ | ⟨i, e, y1, h1, h2, h3, h4, h5, h6⟩
  · rw [h3] at t1; cases t1
  rw [Nat.zero_add] at h5
  rw [h5] at t1
  obtain rfl : i = i0 := by injection t1 with t; injection t
  rw [h2] at t2
  obtain rfl : e = e0 := by injection t2
  have hfi : es.findIdx? (fun e => (e.born : Int) == (n : Int)) = some i := by
    have := find_born hb.nd h2 t3
    rw [arr_find]
    exact this
  have hrun : (execOp a.eval o).run P w = .ok .skip (w.putObj g (.map (es.modify i fun e => { e with val := v }) clock)) := by
    simp [execOp, ho, hs.slots.lit hm, hnv, hev, Instr.entryStore, MapKept.run_getObj_map hg, asInt, asIntOf, hfi, MapKept.run_setObj_map _ hg, Result.andThen, World.putObj]
  rw [hrun, Oper.uponIn_skip, hd]
  have hmod := mod_set h2 (fun e => { e with val := v })
  obtain ⟨f1, f2⟩ := fin_mapF hs hp hmd (es' := es.modify i fun e => { e with val := v }) (c' := clock) (l' := updG l k y) (by rw [hmod]; exact h6 y v hxv _ h3 rfl) (look_updF hlf k y) (by rw [hmod]; exact borns_set hb h2 rfl) (fun k n h => (by cases h))
  exact hk0 _ _ S _ _ hK f1.putNone f2
end
end Go.Tl
end
section
namespace Go.Proofs.Ytlpknbneilgjkaa.R
open Go Go.RowKit Go.Tl
set_option linter.unusedVariables false
set_option linter.unusedSimpArgs false
def akV (k : Nat × Bool) : Value := .agg #[.int .i64 k.1, .bool k.2]
theorem akey_ok (e : Bool) (a : Int) (b : Bool) (w : World) : (Instr.checkKey e 10000 232 (.agg #[.int .i64 a, .bool b])).run Try.prog w = .ok () w := by kernel_rfl
theorem eq_arc (a c : Int) (b d : Bool) (w : World) : (Op.equal 232 (.agg #[.int .i64 a, .bool b]) (.agg #[.int .i64 c, .bool d])).run Try.prog w = .ok (a == c && b == d) w := by
  have h1 : Try.prog.stoodInHeld 232 = false := by kernel_rfl
  have h2 : Try.prog.underlying 232 = some (.struct (Try.prog.fieldsOf 232)) := by kernel_rfl
  have hfo : (Try.prog.fieldsOf 232).toList = (match Try.prog.underlying 232 with | some (.struct fs) => fs.toList | _ => []) := by kernel_rfl
  unfold Op.equal Op.maxDepth
  rw [run_equalIn_struct w 9999 232 _ _ h2 h1, hfo, Try.underlying232]
  have p1 : ∀ (x y : Value) (w : World), (part 3 #[x, y] 0).run Try.prog w = .ok x w := fun x y w => by kernel_rfl
  have p2 : ∀ (x y : Value) (w : World), (part 4 #[x, y] 1).run Try.prog w = .ok y w := fun x y w => by kernel_rfl
  have q : ∀ (a b : Int) (w : World), (Op.equalIn 9999 3 (.int .i64 a) (.int .i64 b)).run Try.prog w = .ok (a == b) w := fun a b w => run_equalIn_int w 9998 3 .i64 .i64 a b Try.underlying3
  have q2 : ∀ (a b : Bool) (w : World), (Op.equalIn 9999 4 (.bool a) (.bool b)).run Try.prog w = .ok (a == b) w := fun a b w => run_equalIn_bool w 9998 4 a b Try.underlying4
  cases h1 : (a == c) <;> cases h2 : (b == d) <;> simp [Op.eqFields, p1, p2, q, q2, h1, h2]
theorem ask_a (k : Nat × Bool) : ∀ (ks : List (Nat × Bool)) (es : List MapEntry) (j : Nat) (w : World), KRel akV ks es → (Instr.findAsking 232 (akV k) es j).run Try.prog w = .ok (findG k ks es j) w
  | _, _, j, w, .nil => by simp [Instr.findAsking, findG]
  | k' :: ks, e :: es, j, w, .cons hk h => by
    have ih := ask_a k ks es (j + 1) w h
    have he : ∀ w, (Op.equal 232 (akV k) e.key).run Try.prog w = .ok (decide (k = k')) w := fun w => by
      rw [hk]
      have := eq_arc k.1 k'.1 k.2 k'.2 w
      show (Op.equal 232 (.agg #[.int .i64 k.1, .bool k.2]) (.agg #[.int .i64 k'.1, .bool k'.2])).run Try.prog w = _
      rw [this]
      obtain ⟨a, b⟩ := k
      obtain ⟨c, d⟩ := k'
      by_cases e1 : a = c
      · subst e1
        by_cases e2 : b = d
        · subst e2; simp
        · simp [e2]
      · have : ((a : Int) == (c : Int)) = false := beq_false_of_ne (fun x => e1 (Int.ofNat.inj x))
        simp [this, e1]
    by_cases c : k = k'
    · subst c; simp [Instr.findAsking, he, findG]
    · simp [Instr.findAsking, he, findG, c, ih]
noncomputable def Ma : MG Try.prog 228 (Nat × Bool) where
  kt := 232
  vt := 3
  z := .int .i64 0
  zA := intA 0
  kv := akV
  ka := fun k => .ag [intA k.1, boolA k.2]
  hm := by kernel_rfl
  inv := fun w S k v h => by
    obtain ⟨vs, rfl, hv⟩ := ag_inv h
    obtain ⟨v1, us, rfl, k1, hv⟩ := rels1 hv
    obtain ⟨v2, us, rfl, k2, hv⟩ := rels1 hv
    obtain rfl := rels0 hv
    rw [k1.lit_inv, k2.lit_inv]
    rfl
  hz := fun w => by kernel_rfl
  hzA := fun w S => .v _
  chk := fun e k w => akey_ok e k.1 k.2 w
  bits := fun k => by
    obtain ⟨a, b⟩ := k
    simp [akV, Instr.sameBits]
  find := fun k ks es w h => by
    have h2 : Try.prog.underlying 232 = some (.struct (Try.prog.fieldsOf 232)) := by kernel_rfl
    cases h with
    | nil => simp [Instr.findKey, run_underlying h2, Instr.findNow, findG]
    | @cons k' e ks es hk h =>
      have hn : Instr.findNow (.struct (Try.prog.fieldsOf 232)) (akV k) (e :: es) 0 = none := by simp [Instr.findNow, Instr.sameNow]
      have := ask_a k _ _ 0 w (.cons hk h)
      simp [Instr.findKey, run_underlying h2, hn, this]
end Go.Proofs.Ytlpknbneilgjkaa.R
end
end
