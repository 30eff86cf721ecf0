/- coupon.Whole (Try.func11) for one house and one split, and what it calls: walks. -/
import Derived.Test.YtlpknbneilgjkaaK0
import Derived.Test.YtlpknbneilgjkaaGTy
import Derived.Test.YtlpknbneilgjkaaGTs
import Derived.Test.YtlpknbneilgjkaaGPa
namespace Go.Proofs.Ytlpknbneilgjkaa.K
open Go Go.RowKit Go.Tl
set_option linter.unusedVariables false
set_option linter.unusedSimpArgs false
set_option maxRecDepth 100000
set_option maxHeartbeats 4000000
def mnL (xs : List Int) : Nat → Int
  | 0 => xs.getD 0 0
  | k + 1 => min (mnL xs k) (xs.getD (k + 1) 0)
attribute [local irreducible] AWP AWL AOp PV LV AWT AWE
theorem smin_p (cp : Bool) (xs : List Int) (hl : xs.length ≤ 1000) (h0 : 0 < xs.length) : PCall Try.prog 168 [.t (intsT cp xs)] (fun r => r = intA (mnL xs (xs.length - 1))) := by
  refine acall_of_awp T0 Try.func168 rfl rfl rfl ?_
  repeat (first | refine awp_seq ?_ | refine awp_block ?_ | refine awp_region_lit rfl ?_ | refine awp_skip ?_ | with_reducible refine then_n ?_ | refine awp_cond_f rfl (by first | rfl | assumption | exact dF (by omega)) ?_ | ((first | (show AWL _ _ _ (⟨_, .move _, _, _, _, _⟩ :: _) _ _ _; refine awl_pw ?wtq (pv_move rfl rfl) rfl rfl ?_) | (show AWL _ _ _ (⟨_, .assign _, _, _, _, _⟩ :: _) _ _ _; refine awl_pw ?wtq (pv_assign rfl rfl) rfl rfl ?_) | (show AWL _ _ _ (⟨_, .load _ _, _, _, _, _⟩ :: _) _ _ _; refine awl_lw ?wtq (lv_elt_sc T0 rfl rfl rfl rfl) rfl rfl rfl ?_) | (show AWL _ _ _ (⟨_, .indexAddr _ _ _, _, _, _, _⟩ :: _) _ _ _; refine awl_pw ?wtq (pv_ix_t T0 rfl rfl rfl rfl (by omega) ixA) rfl rfl ?_) | (show AWL _ _ _ (⟨_, .binOp .lss _ _ _ _, _, _, _, _⟩ :: _) _ _ _; refine awl_pw ?wtq (pv_lss rfl rfl rfl) rfl rfl ?_) | (show AWL _ _ _ (⟨_, .call ⟨.builtin .len, _, _⟩, _, _, _, _⟩ :: _) _ _ _; refine awl_pw ?wtq (pv_len_t T0 rfl rfl rfl) rfl rfl ?_)); case wtq => exact wtA) | refine awl_nil ?_)
  refine awp_loop (fun m s h => ∃ (k : Nat), k + 1 ≤ xs.length ∧ m = xs.length - k ∧ s = [(0, .t (intsT cp xs)), (3, intA (mnL xs k)), (4, intA ((k + 1 : Nat) : Int))] ∧ h = []) ?_ ⟨0, h0, rfl, rfl, rfl⟩ ssA rcA
  rintro m s h ⟨k, hk, rfl, rfl, rfl⟩
  by_cases hlt : k + 1 < xs.length
  · repeat (first | refine awp_seq ?_ | refine awp_block ?_ | refine awp_region_lit rfl ?_ | refine awp_skip ?_ | with_reducible refine then_n ?_ | refine awp_cond_t rfl (by first | rfl | assumption | exact dT (by omega)) ?_ | ((first | (show AWL _ _ _ (⟨_, .move _, _, _, _, _⟩ :: _) _ _ _; refine awl_pw ?wtq (pv_move rfl rfl) rfl rfl ?_) | (show AWL _ _ _ (⟨_, .assign _, _, _, _, _⟩ :: _) _ _ _; refine awl_pw ?wtq (pv_assign rfl rfl) rfl rfl ?_) | (show AWL _ _ _ (⟨_, .load _ _, _, _, _, _⟩ :: _) _ _ _; refine awl_lw ?wtq (lv_elt_sc T0 rfl rfl rfl rfl) rfl rfl rfl ?_) | (show AWL _ _ _ (⟨_, .indexAddr _ _ _, _, _, _, _⟩ :: _) _ _ _; refine awl_pw ?wtq (pv_ix_t T0 rfl rfl rfl rfl (by omega) ixA) rfl rfl ?_) | (show AWL _ _ _ (⟨_, .binOp .add _ _ _ _, _, _, _, _⟩ :: _) _ _ _; refine awl_pw ?wtq (pv_add rfl rfl rfl (by first | assumption | exact wr64 (by omega))) rfl rfl ?_) | (show AWL _ _ _ (⟨_, .binOp .lss _ _ _ _, _, _, _, _⟩ :: _) _ _ _; refine awl_pw ?wtq (pv_lss rfl rfl rfl) rfl rfl ?_) | (show AWL _ _ _ (⟨_, .call ⟨.builtin .len, _, _⟩, _, _, _, _⟩ :: _) _ _ _; refine awl_pw ?wtq (pv_len_t T0 rfl rfl rfl) rfl rfl ?_) | (show AWL _ _ _ (⟨_, .call ⟨.builtin .min, _, _⟩, _, _, _, _⟩ :: _) _ _ _; refine awl_pw ?wtq (pv_min2 rfl rfl rfl) rfl rfl ?_)); case wtq => exact wtA) | refine awl_nil ?_)
    refine rnd_n _ _ _ ?_ ⟨k + 1, hlt, rfl, rfl, rfl⟩ ssA rcA
    omega
  have e : xs.length - 1 = k := by omega
  rw [e]
  repeat (first | refine awp_seq ?_ | refine awp_region_lit rfl ?_ | refine awp_exit ?_ | refine awp_ret ?_ | with_reducible refine then_n ?_ | refine awp_cond_f rfl (by first | rfl | assumption | exact dF (by omega)) ?_ | ((first | (show AWL _ _ _ (⟨_, .move _, _, _, _, _⟩ :: _) _ _ _; refine awl_pw ?wtq (pv_move rfl rfl) rfl rfl ?_) | (show AWL _ _ _ (⟨_, .assign _, _, _, _, _⟩ :: _) _ _ _; refine awl_pw ?wtq (pv_assign rfl rfl) rfl rfl ?_) | (show AWL _ _ _ (⟨_, .binOp .lss _ _ _ _, _, _, _, _⟩ :: _) _ _ _; refine awl_pw ?wtq (pv_lss rfl rfl rfl) rfl rfl ?_) | (show AWL _ _ _ (⟨_, .call ⟨.builtin .len, _, _⟩, _, _, _, _⟩ :: _) _ _ _; refine awl_pw ?wtq (pv_len_t T0 rfl rfl rfl) rfl rfl ?_)); case wtq => exact wtA) | refine awl_nil ?_)
  exact body_p (.cons rfl .nil) rfl
theorem min_p (y : Int) (hy : 0 ≤ y) : PCall Try.prog 121 [.t (.sl true 1 4 (fun k => [.sc (.int .i64 (([y, 0, 0, 0] : List Int).getD k 0))]))] (fun r => r = intA 0) := by
  have hS := smin_p true [y, 0, 0, 0] (by simp) (by simp)
  have e : mnL [y, 0, 0, 0] (([y, 0, 0, 0] : List Int).length - 1) = 0 := by
    simp [mnL]
    omega
  rw [e] at hS
  refine acall_of_awp T0 Try.func121 rfl rfl rfl ?_
  repeat (first | refine awp_seq ?_ | refine awp_region_lit rfl ?_ | ((first | (show AWL _ _ _ (⟨_, .move _, _, _, _, _⟩ :: _) _ _ _; refine awl_pw ?wtq (pv_move rfl rfl) rfl rfl ?_) | (show AWL _ _ _ (⟨_, .assign _, _, _, _, _⟩ :: _) _ _ _; refine awl_pw ?wtq (pv_assign rfl rfl) rfl rfl ?_)); case wtq => exact wtA) | refine awl_nil ?_)
  refine awl_hw wtA (st_call T0 (hS) rfl rfl rfl rfl (by first | exact callee_lit | exact callee_v | exact callee_fn | assumption) rcA raA rfl ?_)
  rintro _ rfl
  repeat (first | refine awp_ret ?_ | ((first | (show AWL _ _ _ (⟨_, .assign _, _, _, _, _⟩ :: _) _ _ _; refine awl_pw ?wtq (pv_assign rfl rfl) rfl rfl ?_)); case wtq => exact wtA) | refine awl_nil ?_)
  exact body_p (.cons rfl .nil) rfl
theorem cwork_o (c1 c2 : Bool) (x : Int) (s : SplD) : ACall Try.prog 77 [comA c1 c2 x s] [] (fun r h' => ∃ gw gm, r = .v (ptrV gw) ∧ h' = wkE gw gm c1 c2 x s []) := by
  refine acall_of_awp T0 Try.func77 rfl rfl rfl ?_
  repeat (first | refine awp_seq ?_ | refine awp_region_lit rfl ?_)
  refine awl_hw wtA (st_box rfl rfl raA (by first | assumption | (simp only [cellsA]; rfl)) rfl rfl ?_)
  intro g1
  repeat (first | refine awp_seq ?_ | refine awp_region_lit rfl ?_ | ((first | (show AWL _ _ _ (⟨_, .assign _, _, _, _, _⟩ :: _) _ _ _; refine awl_pw ?wtq (pv_assign rfl rfl) rfl rfl ?_) | (show AWL _ _ _ (⟨_, .load _ _, _, _, _, _⟩ :: _) _ _ _; refine awl_lw ?wtq (lv_cla T0 rfl rfl rfl rcA rfl) rfl rfl rfl ?_)); case wtq => exact wtA) | refine awl_nil ?_)
  refine awl_hw wtA (aop_makeMap 2 rfl rfl rfl ?_)
  intro gm
  repeat (first | ((first | (show AWL _ _ _ (⟨_, .build _ _, _, _, _, _⟩ :: _) _ _ _; refine awl_pw ?wtq (pv_build T0 rfl rfl rfl scA (by first | ((repeat' (first | exact BParts.nil | apply BParts.cons | rfl)); all_goals fail) | fail) (by first | ((repeat' (first | exact FillA.nil | exact Sp.done | apply FillA.cons | apply Sp.put | apply Sp.skip | (simp only [cellsA]; rfl) | rfl)); all_goals fail) | fail)) rfl rfl ?_)); case wtq => exact wtA))
  refine awl_hw wtA (st_box rfl rfl raA (by first | assumption | (simp only [cellsA]; rfl)) rfl rfl ?_)
  intro gw
  repeat (first | refine awp_ret ?_ | ((first | (show AWL _ _ _ (⟨_, .assign _, _, _, _, _⟩ :: _) _ _ _; refine awl_pw ?wtq (pv_assign rfl rfl) rfl rfl ?_)); case wtq => exact wtA) | refine awl_nil ?_)
  exact body_r (h' := wkE gw gm c1 c2 x s []) (.cons rfl .nil) rcA ⟨gw, gm, rfl, rfl⟩
theorem units_o (gw gm : Nat) (c1 c2 : Bool) (x : Int) (s : SplD) (hv : VSpl x s) (n : Int) (hn : 0 ≤ n ∧ n ≤ 11) (l : List (List Int × AV)) (hl : KnownU s l) :
    ACall Try.prog 81 [.v (ptrV gw), intA x, .ag [intA (-1), intA n]] (wkE gw gm c1 c2 x s l) (fun r h' => r = intA (x * uN s n) ∧ ∃ l', KnownU s l' ∧ h' = wkE gw gm c1 c2 x s l') := by
  have hx := hv.held
  have hday := hv.day
  have hnum := hv.num
  have hden := hv.den
  have hu := uN_bd hv n
  have m0 := Int.mul_nonneg hx.1 hu.1
  have m1 : x * uN s n ≤ 100 * 4320 := Int.mul_le_mul hx.2 hu.2 hu.1 (by decide)
  have hw : IntKind.i64.wrap (x * uN s n) = x * uN s n := wr64 (by omega)
  refine acall_of_awp T0 Try.func81 rfl rfl rfl ?_
  repeat (first | refine awp_seq ?_ | refine awp_region_lit rfl ?_)
  refine awl_hw wtA (st_box rfl rfl raA (by first | assumption | (simp only [cellsA]; rfl)) rfl rfl ?_)
  intro g5
  repeat (first | refine awp_seq ?_ | ((first | (show AWL _ _ _ (⟨_, .assign _, _, _, _, _⟩ :: _) _ _ _; refine awl_pw ?wtq (pv_assign rfl rfl) rfl rfl ?_)); case wtq => exact wtA) | refine awl_nil ?_)
  cases hlk : lookL l [-1, n] with
  | some y =>
    obtain ⟨n', e1, rfl⟩ := hl _ _ hlk
    simp only [List.cons.injEq, and_true, true_and] at e1
    subst e1
    refine awp_tree T0 [(0, 0), (1, 0), (2, 0), (3, 1), (4, 1), (5, 1), (6, 0), (7, 0), (8, 0), (9, 0), (10, 0)] (.op 0 0 (.op 1 0 (.op 2 0 (.op 3 1 (.op 4 1 (.op 5 1 (.op 6 0 (.op 7 0 (.op 8 0 (.op 9 0 (.op 10 0 .stop))))))))))) _ rfl (by kernel_rfl) (SubH.refl _) ?_
    refine awt_po rfl (wt_none rfl) (pv_move rfl rfl) rfl rfl ?_
    refine awt_po rfl (wt_none rfl) (pv_nilCheck rfl rfl) rfl rfl ?_
    refine awt_po rfl (wt_none rfl) (pv_fa T0 rfl rfl rfl (by simp; rfl)) rfl rfl ?_
    refine awt_lo rfl (wt_none rfl) (lv_cl1 T0 rfl rfl rfl rcA raA) rfl rfl rfl ?_
    refine awt_lo rfl (wt_none rfl) (lv_cla T0 rfl rfl rfl rcA rfl) rfl rfl rfl ?_
    refine awt_lo rfl (wt_none rfl) (lv_lk_s M204 rfl rfl rfl rcA rfl rcA hlk) rfl rfl rfl ?_
    refine awt_po rfl (wt_none rfl) (pv_move rfl rfl) rfl rfl ?_
    refine awt_po rfl (wt_none rfl) (pv_extract rfl rfl rfl) rfl rfl ?_
    refine awt_po rfl (wt_none rfl) (pv_extract rfl rfl rfl) rfl rfl ?_
    refine awt_po rfl (wt_none rfl) (pv_assign rfl rfl) rfl rfl ?_
    refine awt_po rfl (wt_none rfl) (pv_assign rfl rfl) rfl rfl ?_
    refine awt_end ?_
    repeat (first | refine awp_seq ?_ | refine awp_region_lit rfl ?_ | refine awp_skip ?_ | refine awp_ret ?_ | with_reducible refine then_n ?_ | refine awp_cond_f rfl (by first | rfl | assumption | exact dF (by omega)) ?_ | ((first | (show AWL _ _ _ (⟨_, .move _, _, _, _, _⟩ :: _) _ _ _; refine awl_pw ?wtq (pv_move rfl rfl) rfl rfl ?_) | (show AWL _ _ _ (⟨_, .assign _, _, _, _, _⟩ :: _) _ _ _; refine awl_pw ?wtq (pv_assign rfl rfl) rfl rfl ?_) | (show AWL _ _ _ (⟨_, .binOp .mul _ _ _ _, _, _, _, _⟩ :: _) _ _ _; refine awl_pw ?wtq (pv_mul rfl rfl rfl (by first | assumption | exact wr64 (by omega))) rfl rfl ?_) | (show AWL _ _ _ (⟨_, .unOp .not _ _, _, _, _, _⟩ :: _) _ _ _; refine awl_pw ?wtq (pv_not rfl rfl) rfl rfl ?_)); case wtq => exact wtA) | refine awl_nil ?_)
    exact body_r (h' := wkE gw gm c1 c2 x s l) (.cons rfl .nil) rcA ⟨rfl, l, hl, rfl⟩
  | none =>
  refine awp_tree T0 [(0, 0), (1, 0), (2, 0), (3, 1), (4, 1), (5, 1), (6, 0), (7, 0), (8, 0), (9, 0), (10, 0)] (.op 0 0 (.op 1 0 (.op 2 0 (.op 3 1 (.op 4 1 (.op 5 1 (.op 6 0 (.op 7 0 (.op 8 0 (.op 9 0 (.op 10 0 .stop))))))))))) _ rfl (by kernel_rfl) (SubH.refl _) ?_
  refine awt_po rfl (wt_none rfl) (pv_move rfl rfl) rfl rfl ?_
  refine awt_po rfl (wt_none rfl) (pv_nilCheck rfl rfl) rfl rfl ?_
  refine awt_po rfl (wt_none rfl) (pv_fa T0 rfl rfl rfl (by simp; rfl)) rfl rfl ?_
  refine awt_lo rfl (wt_none rfl) (lv_cl1 T0 rfl rfl rfl rcA raA) rfl rfl rfl ?_
  refine awt_lo rfl (wt_none rfl) (lv_cla T0 rfl rfl rfl rcA rfl) rfl rfl rfl ?_
  refine awt_lo rfl (wt_none rfl) (lv_lk_n M204 rfl rfl rfl rcA rfl rcA hlk rfl) rfl rfl rfl ?_
  refine awt_po rfl (wt_none rfl) (pv_move rfl rfl) rfl rfl ?_
  refine awt_po rfl (wt_none rfl) (pv_extract rfl rfl rfl) rfl rfl ?_
  refine awt_po rfl (wt_none rfl) (pv_extract rfl rfl rfl) rfl rfl ?_
  refine awt_po rfl (wt_none rfl) (pv_assign rfl rfl) rfl rfl ?_
  refine awt_po rfl (wt_none rfl) (pv_assign rfl rfl) rfl rfl ?_
  refine awt_end ?_
  repeat (first | refine awp_seq ?_ | refine awp_block ?_ | refine awp_region_lit rfl ?_ | with_reducible refine then_n ?_ | refine awp_cond_t rfl (by first | rfl | assumption | exact dT (by omega)) ?_ | ((first | (show AWL _ _ _ (⟨_, .move _, _, _, _, _⟩ :: _) _ _ _; refine awl_pw ?wtq (pv_move rfl rfl) rfl rfl ?_) | (show AWL _ _ _ (⟨_, .assign _, _, _, _, _⟩ :: _) _ _ _; refine awl_pw ?wtq (pv_assign rfl rfl) rfl rfl ?_) | (show AWL _ _ _ (⟨_, .load _ _, _, _, _, _⟩ :: _) _ _ _; refine awl_lw ?wtq (lv_cl1 T0 rfl rfl rfl rcA raA) rfl rfl rfl ?_) | (show AWL _ _ _ (⟨_, .fieldAddr _ _ _, _, _, _, _⟩ :: _) _ _ _; refine awl_pw ?wtq (pv_fa T0 rfl rfl rfl (by simp; rfl)) rfl rfl ?_) | (show AWL _ _ _ (⟨_, .call ⟨.builtin .len, _, _⟩, _, _, _, _⟩ :: _) _ _ _; refine awl_pw ?wtq (pv_len_t T0 rfl rfl rfl) rfl rfl ?_) | (show AWL _ _ _ (⟨_, .unOp .not _ _, _, _, _, _⟩ :: _) _ _ _; refine awl_pw ?wtq (pv_not rfl rfl) rfl rfl ?_) | (show AWL _ _ _ (⟨_, .nilCheck _, _, _, _, _⟩ :: _) _ _ _; refine awl_pw ?wtq (pv_nilCheck rfl rfl) rfl rfl ?_)); case wtq => exact wtA) | refine awl_nil ?_)
  have hq : (720 * s.num).tdiv s.den = 720 * s.num / s.den := Int.tdiv_eq_ediv_of_nonneg (by omega)
  have hq2 : 0 ≤ (720 * s.num).tdiv s.den ∧ (720 * s.num).tdiv s.den ≤ 4320 := by
    rw [hq]
    exact ⟨Int.ediv_nonneg (by omega) (by omega), Int.le_trans (Int.ediv_le_self _ (by omega)) (by omega)⟩
  have hqw : IntKind.i64.wrap ((720 * s.num).tdiv s.den) = (720 * s.num).tdiv s.den := wr64 (by omega)
  have d1 : decide ((-1 : Int) < s.day) = true := decide_eq_true (by omega)
  refine awp_loop (fun m w h => ∃ (k : Nat) (y : Int), (k = 0 ∧ y = 720 ∨ k = 1 ∧ y = uN s n) ∧ m = 1 - k ∧ w = [(0, .v (ptrV gw)), (1, intA x), (5, .v (ptrV g5)), (7, intA y), (26, .t (splT c2 s)), (27, intA 1), (28, intA k)] ∧ h = [.cl gw 206 [intA 1, .t (intsT c1 [x]), nilA, nilA, .t (splT c2 s), nilA, .v (.map (some gm))], mapE gm 2 l, .cl g5 209 [intA (-1), intA n]]) ?_ ⟨0, 720, .inl ⟨rfl, rfl⟩, rfl, rfl, rfl⟩ ssA rcA
  rintro m w h ⟨k, y, hk, rfl, rfl, rfl⟩
  rcases hk with ⟨rfl, rfl⟩ | ⟨rfl, rfl⟩
  · have d2 : decide (((0 : Nat) : Int) < 1) = true := rfl
    by_cases hd : s.day ≤ n
    · have d3 := decide_eq_true hd
      have eu : uN s n = (720 * s.num).tdiv s.den := by unfold uN; rw [if_pos hd]
      repeat (first | refine awp_seq ?_ | refine awp_block ?_ | refine awp_region_lit rfl ?_ | refine awp_skip ?_ | refine awp_cond_t rfl (by first | rfl | assumption | exact dT (by omega)) ?_ | ((first | (show AWL _ _ _ (⟨_, .load _ _, _, _, _, _⟩ :: _) _ _ _; refine awl_lw ?wtq (lv_elt_ag T0 rfl rfl rfl rfl rcA) rfl rfl rfl ?_) | (show AWL _ _ _ (⟨_, .indexAddr _ _ _, _, _, _, _⟩ :: _) _ _ _; refine awl_pw ?wtq (pv_ix_t T0 rfl rfl rfl rfl (by omega) ixA) rfl rfl ?_) | (show AWL _ _ _ (⟨_, .binOp .lss _ _ _ _, _, _, _, _⟩ :: _) _ _ _; refine awl_pw ?wtq (pv_lss rfl rfl rfl) rfl rfl ?_)); case wtq => exact wtA) | refine awl_nil ?_)
      refine awl_hw wtA (st_alloc T0 rfl rfl rfl rfl scA ?_)
      intro g10
      repeat (first | refine awp_seq ?_ | refine awp_region_lit rfl ?_ | with_reducible refine then_n ?_ | refine awp_cond_t rfl (by first | rfl | assumption | exact dT (by omega)) ?_ | ((first | (show AWL _ _ _ (⟨_, .move _, _, _, _, _⟩ :: _) _ _ _; refine awl_pw ?wtq (pv_move rfl rfl) rfl rfl ?_) | (show AWL _ _ _ (⟨_, .assign _, _, _, _, _⟩ :: _) _ _ _; refine awl_pw ?wtq (pv_assign rfl rfl) rfl rfl ?_) | (show AWL _ _ _ (⟨_, .load _ _, _, _, _, _⟩ :: _) _ _ _; refine awl_lw ?wtq (lv_cl1 T0 rfl rfl rfl rcA raA) rfl rfl rfl ?_) | (show AWL _ _ _ (⟨_, .fieldAddr _ _ _, _, _, _, _⟩ :: _) _ _ _; refine awl_pw ?wtq (pv_fa T0 rfl rfl rfl (by simp; rfl)) rfl rfl ?_) | (show AWL _ _ _ (⟨_, .binOp .add _ _ _ _, _, _, _, _⟩ :: _) _ _ _; refine awl_pw ?wtq (pv_add rfl rfl rfl (by first | assumption | exact wr64 (by omega))) rfl rfl ?_) | (show AWL _ _ _ (⟨_, .binOp .mul _ _ _ _, _, _, _, _⟩ :: _) _ _ _; refine awl_pw ?wtq (pv_mul rfl rfl rfl (by first | assumption | exact wr64 (by omega))) rfl rfl ?_) | (show AWL _ _ _ (⟨_, .binOp .quo _ _ _ _, _, _, _, _⟩ :: _) _ _ _; refine awl_pw ?wtq (pv_quo rfl rfl rfl (by omega) (by first | assumption | exact wr64 (by omega))) rfl rfl ?_) | (show AWL _ _ _ (⟨_, .binOp .lss _ _ _ _, _, _, _, _⟩ :: _) _ _ _; refine awl_pw ?wtq (pv_lss rfl rfl rfl) rfl rfl ?_) | (show AWL _ _ _ (⟨_, .binOp .leq _ _ _ _, _, _, _, _⟩ :: _) _ _ _; refine awl_pw ?wtq (pv_leq rfl rfl rfl) rfl rfl ?_) | (show AWL _ _ _ (⟨_, .pick _ _ _, _, _, _, _⟩ :: _) _ _ _; refine awl_pw ?wtq (pv_pick_t rfl rfl tfA rfl) rfl rfl ?_)); case wtq => exact wtA) | (show AWL _ _ _ (⟨_, .store _ _ _, _, _, _, _⟩ :: _) _ _ _; refine awl_hw wtA (st_store T0 rfl rfl rfl rfl rfl (by first | assumption | (simp only [cellsA]; rfl)) rfl rfl rfl rcA rcA trivial ?_)) | refine awl_nil ?_)
      refine rnd_n _ _ _ ?_ ⟨1, (720 * s.num).tdiv s.den, .inr ⟨rfl, eu.symm⟩, rfl, rfl, rfl⟩ ssA rcA
      omega
    · have d3 := decide_eq_false hd
      have eu : uN s n = 720 := by unfold uN; rw [if_neg hd]
      repeat (first | refine awp_seq ?_ | refine awp_block ?_ | refine awp_region_lit rfl ?_ | refine awp_skip ?_ | refine awp_cond_t rfl (by first | rfl | assumption | exact dT (by omega)) ?_ | ((first | (show AWL _ _ _ (⟨_, .load _ _, _, _, _, _⟩ :: _) _ _ _; refine awl_lw ?wtq (lv_elt_ag T0 rfl rfl rfl rfl rcA) rfl rfl rfl ?_) | (show AWL _ _ _ (⟨_, .indexAddr _ _ _, _, _, _, _⟩ :: _) _ _ _; refine awl_pw ?wtq (pv_ix_t T0 rfl rfl rfl rfl (by omega) ixA) rfl rfl ?_) | (show AWL _ _ _ (⟨_, .binOp .lss _ _ _ _, _, _, _, _⟩ :: _) _ _ _; refine awl_pw ?wtq (pv_lss rfl rfl rfl) rfl rfl ?_)); case wtq => exact wtA) | refine awl_nil ?_)
      refine awl_hw wtA (st_alloc T0 rfl rfl rfl rfl scA ?_)
      intro g10
      repeat (first | refine awp_seq ?_ | refine awp_region_lit rfl ?_ | refine awp_skip ?_ | with_reducible refine then_n ?_ | refine awp_cond_f rfl (by first | rfl | assumption | exact dF (by omega)) ?_ | ((first | (show AWL _ _ _ (⟨_, .move _, _, _, _, _⟩ :: _) _ _ _; refine awl_pw ?wtq (pv_move rfl rfl) rfl rfl ?_) | (show AWL _ _ _ (⟨_, .load _ _, _, _, _, _⟩ :: _) _ _ _; refine awl_lw ?wtq (lv_cl1 T0 rfl rfl rfl rcA raA) rfl rfl rfl ?_) | (show AWL _ _ _ (⟨_, .fieldAddr _ _ _, _, _, _, _⟩ :: _) _ _ _; refine awl_pw ?wtq (pv_fa T0 rfl rfl rfl (by simp; rfl)) rfl rfl ?_) | (show AWL _ _ _ (⟨_, .binOp .add _ _ _ _, _, _, _, _⟩ :: _) _ _ _; refine awl_pw ?wtq (pv_add rfl rfl rfl (by first | assumption | exact wr64 (by omega))) rfl rfl ?_) | (show AWL _ _ _ (⟨_, .binOp .lss _ _ _ _, _, _, _, _⟩ :: _) _ _ _; refine awl_pw ?wtq (pv_lss rfl rfl rfl) rfl rfl ?_) | (show AWL _ _ _ (⟨_, .binOp .leq _ _ _ _, _, _, _, _⟩ :: _) _ _ _; refine awl_pw ?wtq (pv_leq rfl rfl rfl) rfl rfl ?_) | (show AWL _ _ _ (⟨_, .pick _ _ _, _, _, _, _⟩ :: _) _ _ _; refine awl_pw ?wtq (pv_pick_t rfl rfl tfA rfl) rfl rfl ?_)); case wtq => exact wtA) | (show AWL _ _ _ (⟨_, .store _ _ _, _, _, _, _⟩ :: _) _ _ _; refine awl_hw wtA (st_store T0 rfl rfl rfl rfl rfl (by first | assumption | (simp only [cellsA]; rfl)) rfl rfl rfl rcA rcA trivial ?_)) | refine awl_nil ?_)
      refine rnd_n _ _ _ ?_ ⟨1, 720, .inr ⟨rfl, eu.symm⟩, rfl, rfl, rfl⟩ ssA rcA
      omega
  · have d2 : decide (((1 : Nat) : Int) < 1) = false := rfl
    repeat (first | refine awp_seq ?_ | refine awp_region_lit rfl ?_ | refine awp_exit ?_ | with_reducible refine then_n ?_ | with_reducible refine then_x ?_ | with_reducible refine blk_x ?_ | refine rnd_x ?_ | refine awp_cond_f rfl (by first | rfl | assumption | exact dF (by omega)) ?_ | ((first | (show AWL _ _ _ (⟨_, .binOp .lss _ _ _ _, _, _, _, _⟩ :: _) _ _ _; refine awl_pw ?wtq (pv_lss rfl rfl rfl) rfl rfl ?_)); case wtq => exact wtA) | refine awl_nil ?_)
    refine awp_tree T0 [(0, 0), (1, 0), (2, 0), (3, 1), (4, 1), (5, 0), (6, 3)] (.op 0 0 (.op 1 0 (.op 2 0 (.op 3 1 (.op 4 1 (.op 5 0 (.op 6 3 .stop))))))) _ rfl (by kernel_rfl) (SubH.refl _) ?_
    refine awt_po rfl (wt_none rfl) (pv_move rfl rfl) rfl rfl ?_
    refine awt_po rfl (wt_none rfl) (pv_nilCheck rfl rfl) rfl rfl ?_
    refine awt_po rfl (wt_none rfl) (pv_fa T0 rfl rfl rfl (by simp; rfl)) rfl rfl ?_
    refine awt_lo rfl (wt_none rfl) (lv_cl1 T0 rfl rfl rfl rcA raA) rfl rfl rfl ?_
    refine awt_lo rfl (wt_none rfl) (lv_cla T0 rfl rfl rfl rcA rfl) rfl rfl rfl ?_
    refine awt_po rfl (wt_none rfl) (pv_move rfl rfl) rfl rfl ?_
    refine awt_s (md := fun _ => True) rfl (wt_none rfl) (st_mupd M204 rfl rfl rfl rcA rfl rfl rfl rcA rfl trivial ?_)
    refine awe_end ?_
    repeat (first | refine awp_seq ?_ | refine awp_region_lit rfl ?_ | refine awp_ret ?_ | ((first | (show AWL _ _ _ (⟨_, .move _, _, _, _, _⟩ :: _) _ _ _; refine awl_pw ?wtq (pv_move rfl rfl) rfl rfl ?_) | (show AWL _ _ _ (⟨_, .assign _, _, _, _, _⟩ :: _) _ _ _; refine awl_pw ?wtq (pv_assign rfl rfl) rfl rfl ?_) | (show AWL _ _ _ (⟨_, .binOp .mul _ _ _ _, _, _, _, _⟩ :: _) _ _ _; refine awl_pw ?wtq (pv_mul rfl rfl rfl (by first | assumption | exact wr64 (by omega))) rfl rfl ?_)); case wtq => exact wtA) | refine awl_nil ?_)
    exact body_r (h' := wkE gw gm c1 c2 x s (updL l [-1, n] (intA (uN s n)))) (.cons rfl .nil) rcA ⟨rfl, _, hl.upd n, rfl⟩
end Go.Proofs.Ytlpknbneilgjkaa.K
