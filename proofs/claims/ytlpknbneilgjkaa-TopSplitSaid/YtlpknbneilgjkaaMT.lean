/- state.after and prices.value (Try.func48, 88): walks. -/
import Derived.Test.YtlpknbneilgjkaaMMe
import Derived.Test.YtlpknbneilgjkaaMS
import Derived.Test.YtlpknbneilgjkaaGTy
import Derived.Test.YtlpknbneilgjkaaGTs
namespace Go.Proofs.Ytlpknbneilgjkaa.M
open Go Go.RowKit Go.Tl
set_option linter.unusedVariables false
set_option linter.unusedSimpArgs false
set_option maxRecDepth 100000
set_option maxHeartbeats 4000000
attribute [local irreducible] AWP AWL AOp PV LV AWT AWE
theorem after_p (s : St) (h : -1000000000 ≤ s.before ∧ s.before ≤ 1000000000) (h' : -1000000000 ≤ s.call ∧ s.call ≤ 1000000000) : PCall Try.prog 48 [stA s] (fun r => r = intA s.after) := by
  refine acall_of_awp T0 Try.func48 rfl rfl rfl ?_
  repeat (first | refine awp_seq ?_ | refine awp_region_lit rfl ?_)
  refine awl_hw (wt_none rfl) (st_box rfl rfl raA (by first | assumption | (simp only [cellsA]; rfl)) rfl rfl ?_)
  intro g1
  repeat (first | refine awp_seq ?_ | refine awp_region_lit rfl ?_ | refine awp_ret ?_ | (show AWL _ _ _ (⟨_, .assign _, _, _, _, _⟩ :: _) _ _ _; refine awl_pw (wt_none rfl) (pv_assign rfl rfl) rfl rfl ?_) | (show AWL _ _ _ (⟨_, .load _ _, _, _, _, _⟩ :: _) _ _ _; refine awl_lw (wt_none rfl) (lv_cl1 T0 rfl rfl rfl rcA raA) rfl rfl rfl ?_) | (show AWL _ _ _ (⟨_, .fieldAddr _ _ _, _, _, _, _⟩ :: _) _ _ _; refine awl_pw (wt_none rfl) (pv_fa T0 rfl rfl rfl (by simp; rfl)) rfl rfl ?_) | (show AWL _ _ _ (⟨_, .binOp .sub _ _ _ _, _, _, _, _⟩ :: _) _ _ _; refine awl_pw (wt_none rfl) (pv_sub rfl rfl rfl (by first | assumption | exact wr64 (by omega))) rfl rfl ?_) | refine awl_nil ?_)
  exact body_p (.cons rfl .nil) rfl
theorem dot_step : ∀ (xs p : List Int) (k : Nat), k < xs.length → xs.length = p.length → dot (xs.take (k + 1)) (p.take (k + 1)) = dot (xs.take k) (p.take k) + xs.getD k 0 * p.getD k 0
  | [], _, k, h, _ => absurd h (Nat.not_lt_zero _)
  | x :: xs, [], k, _, h => by cases h
  | x :: xs, y :: p, 0, _, _ => by simp [dot]
  | x :: xs, y :: p, k + 1, h, hl => by
    have ih := dot_step xs p k (by simpa using h) (by simpa using hl)
    simp only [List.take_succ_cons, dot, List.getD_cons_succ] at ih ⊢
    omega
theorem pvalue_p (cp : Bool) (xs p : List Int) (hl : xs.length = p.length) (h4 : xs.length ≤ 4) (hx : ∀ x ∈ xs, 0 ≤ x ∧ x ≤ 1000000) (hp : ∀ x ∈ p, 0 ≤ x ∧ x ≤ 1000000) : PCall Try.prog 88 [.ag (arrRow p), .t (intsT cp xs)] (fun r => r = intA (dot xs p)) := by
  refine acall_of_awp T0 Try.func88 rfl rfl rfl ?_
  repeat (first | refine awp_seq ?_ | refine awp_region_lit rfl ?_)
  refine awl_hw (wt_none rfl) (st_box rfl rfl raA (by first | assumption | (simp only [cellsA]; rfl)) rfl rfl ?_)
  intro g2
  repeat (first | refine awp_seq ?_ | refine awp_block ?_ | refine awp_region_lit rfl ?_ | (show AWL _ _ _ (⟨_, .move _, _, _, _, _⟩ :: _) _ _ _; refine awl_pw (wt_none rfl) (pv_move rfl rfl) rfl rfl ?_) | (show AWL _ _ _ (⟨_, .assign _, _, _, _, _⟩ :: _) _ _ _; refine awl_pw (wt_none rfl) (pv_assign rfl rfl) rfl rfl ?_) | (show AWL _ _ _ (⟨_, .call ⟨.builtin .len, _, _⟩, _, _, _, _⟩ :: _) _ _ _; refine awl_pw (wt_none rfl) (pv_len_t T0 rfl rfl rfl) rfl rfl ?_) | refine awl_nil ?_)
  refine awp_loop (fun m s h => ∃ (k : Nat), k ≤ xs.length ∧ m = xs.length - k ∧ 0 ≤ dot (xs.take k) (p.take k) ∧ dot (xs.take k) (p.take k) ≤ 1000000000000 * (k : Int) ∧ s = [(2, .v (ptrV g2)), (4, intA (dot (xs.take k) (p.take k))), (7, .t (intsT cp xs)), (8, intA xs.length), (9, intA k)] ∧ h = [.cl g2 220 (arrRow p)]) ?_ ⟨0, Nat.zero_le _, rfl, (by simp [dot]), (by simp [dot]), rfl, rfl⟩ ssA rcA
  rintro m s h ⟨k, hk, rfl, b1, b2, rfl, rfl⟩
  by_cases hlt : k < xs.length
  · have hX : 0 ≤ xs.getD k 0 ∧ xs.getD k 0 ≤ 1000000 := hx _ (by rw [List.getD_eq_getElem?_getD, List.getElem?_eq_getElem hlt]; exact List.getElem_mem hlt)
    have hP : 0 ≤ p.getD k 0 ∧ p.getD k 0 ≤ 1000000 := hp _ (by rw [List.getD_eq_getElem?_getD, List.getElem?_eq_getElem (show k < p.length by omega)]; exact List.getElem_mem _)
    have hst := dot_step xs p k hlt hl
    have m0 := Int.mul_nonneg hX.1 hP.1
    have m1 : xs.getD k 0 * p.getD k 0 ≤ 1000000 * 1000000 := Int.mul_le_mul hX.2 hP.2 hP.1 (by decide)
    have hk4 : k < 4 := by omega
    have r1 : (arrRow p)[k]? = some (intA (p.getD k 0)) := arr_get p k hk4
    have hw1 : IntKind.i64.wrap (xs.getD k 0 * p.getD k 0) = xs.getD k 0 * p.getD k 0 := wr64 (by omega)
    have hw2 : IntKind.i64.wrap (dot (xs.take k) (p.take k) + xs.getD k 0 * p.getD k 0) = dot (xs.take (k + 1)) (p.take (k + 1)) := by rw [hst]; exact wr64 (by omega)
    repeat (first | refine awp_seq ?_ | refine awp_block ?_ | refine awp_region_lit rfl ?_ | refine awp_skip ?_ | refine awp_cond_t rfl (by first | rfl | assumption | exact dT (by omega)) ?_ | (show AWL _ _ _ (⟨_, .move _, _, _, _, _⟩ :: _) _ _ _; refine awl_pw (wt_none rfl) (pv_move rfl rfl) rfl rfl ?_) | (show AWL _ _ _ (⟨_, .assign _, _, _, _, _⟩ :: _) _ _ _; refine awl_pw (wt_none rfl) (pv_assign rfl rfl) rfl rfl ?_) | (show AWL _ _ _ (⟨_, .load _ _, _, _, _, _⟩ :: _) _ _ _; refine awl_lw (wt_none rfl) (lv_cl1 T0 rfl rfl rfl rcA raA) rfl rfl rfl ?_) | (show AWL _ _ _ (⟨_, .load _ _, _, _, _, _⟩ :: _) _ _ _; refine awl_lw (wt_none rfl) (lv_elt_sc T0 rfl rfl rfl rfl) rfl rfl rfl ?_) | (show AWL _ _ _ (⟨_, .indexAddr _ _ _, _, _, _, _⟩ :: _) _ _ _; refine awl_pw (wt_none rfl) (pv_ix_t T0 rfl rfl rfl rfl (by omega) ixA) rfl rfl ?_) | (show AWL _ _ _ (⟨_, .indexAddr _ _ _, _, _, _, _⟩ :: _) _ _ _; refine awl_pw (wt_none rfl) (pv_ix_arr T0 rfl rfl rfl rfl (by omega) (by simp; rfl)) rfl rfl ?_) | (show AWL _ _ _ (⟨_, .binOp .add _ _ _ _, _, _, _, _⟩ :: _) _ _ _; refine awl_pw (wt_none rfl) (pv_add rfl rfl rfl (by first | assumption | exact wr64 (by omega))) rfl rfl ?_) | (show AWL _ _ _ (⟨_, .binOp .mul _ _ _ _, _, _, _, _⟩ :: _) _ _ _; refine awl_pw (wt_none rfl) (pv_mul rfl rfl rfl (by first | assumption | exact wr64 (by omega))) rfl rfl ?_) | (show AWL _ _ _ (⟨_, .binOp .lss _ _ _ _, _, _, _, _⟩ :: _) _ _ _; refine awl_pw (wt_none rfl) (pv_lss rfl rfl rfl) rfl rfl ?_) | refine awl_nil ?_)
    refine rnd_n _ _ _ ?_ ⟨k + 1, hlt, rfl, by omega, by omega, rfl, rfl⟩ ssA rcA
    omega
  obtain rfl : k = xs.length := by omega
  rw [List.take_length, show p.take xs.length = p by rw [hl, List.take_length]]
  repeat (first | refine awp_seq ?_ | refine awp_region_lit rfl ?_ | refine awp_exit ?_ | refine awp_ret ?_ | refine awp_cond_f rfl (by first | rfl | assumption | exact dF (by omega)) ?_ | (show AWL _ _ _ (⟨_, .move _, _, _, _, _⟩ :: _) _ _ _; refine awl_pw (wt_none rfl) (pv_move rfl rfl) rfl rfl ?_) | (show AWL _ _ _ (⟨_, .assign _, _, _, _, _⟩ :: _) _ _ _; refine awl_pw (wt_none rfl) (pv_assign rfl rfl) rfl rfl ?_) | (show AWL _ _ _ (⟨_, .binOp .lss _ _ _ _, _, _, _, _⟩ :: _) _ _ _; refine awl_pw (wt_none rfl) (pv_lss rfl rfl rfl) rfl rfl ?_) | refine awl_nil ?_)
  exact body_p (.cons rfl .nil) rfl
end Go.Proofs.Ytlpknbneilgjkaa.M
