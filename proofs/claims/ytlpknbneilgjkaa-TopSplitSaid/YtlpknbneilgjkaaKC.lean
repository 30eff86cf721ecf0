/- coupon: held, fits, dated, asked, Whole (Try.func40, 79, 78, 38, 11); contangolaw07.Company (12): walks. -/
import Derived.Test.YtlpknbneilgjkaaKB
import Derived.Test.YtlpknbneilgjkaaGTy
import Derived.Test.YtlpknbneilgjkaaGTs
import Derived.Test.YtlpknbneilgjkaaGPa
namespace Go.Proofs.Ytlpknbneilgjkaa.K
open Go Go.RowKit Go.Tl
set_option linter.unusedVariables false
set_option linter.unusedSimpArgs false
set_option maxRecDepth 100000
set_option maxHeartbeats 4000000
attribute [local irreducible] AWP AWL AOp PV LV AWT AWE
theorem kas4 (a b c d : Int) : KAs [intA a, intA b, intA c, intA d] (M.pad4 [a, b, c, d]) := .cons (.cons (.cons (.cons .nil)))
theorem held_o (gw gm : Nat) (c1 c2 : Bool) (x : Int) (s : SplD) (hv : VSpl x s) (n : Int) (hn : 0 ≤ n ∧ n ≤ 11) (l : List (List Int × AV)) (hl : KnownU s l) :
    ACall Try.prog 40 [.v (ptrV gw), truA, intA n] (wkE gw gm c1 c2 x s l) (fun r h' => r = .ag [intA (x * uN s n), intA 0, intA 0, intA 0] ∧ ∃ l', KnownU s l' ∧ h' = wkE gw gm c1 c2 x s l') := by
  refine acall_of_awp T0 Try.func40 rfl rfl rfl ?_
  repeat (first | refine awp_seq ?_ | refine awp_region_lit rfl ?_)
  refine awl_hw wtA (st_box rfl rfl raA (by first | assumption | (simp only [cellsA]; rfl)) rfl rfl ?_)
  intro g4
  skip
  refine awl_hw wtA (st_alloc T0 rfl rfl rfl rfl scA ?_)
  intro g6
  repeat (first | refine awp_seq ?_ | refine awp_block ?_ | refine awp_region_lit rfl ?_ | ((first | (show AWL _ _ _ (⟨_, .move _, _, _, _, _⟩ :: _) _ _ _; refine awl_pw ?wtq (pv_move rfl rfl) rfl rfl ?_) | (show AWL _ _ _ (⟨_, .load _ _, _, _, _, _⟩ :: _) _ _ _; refine awl_lw ?wtq (lv_cl1 T0 rfl rfl rfl rcA raA) rfl rfl rfl ?_) | (show AWL _ _ _ (⟨_, .fieldAddr _ _ _, _, _, _, _⟩ :: _) _ _ _; refine awl_pw ?wtq (pv_fa T0 rfl rfl rfl (by simp; rfl)) rfl rfl ?_) | (show AWL _ _ _ (⟨_, .call ⟨.builtin .len, _, _⟩, _, _, _, _⟩ :: _) _ _ _; refine awl_pw ?wtq (pv_len_t T0 rfl rfl rfl) rfl rfl ?_) | (show AWL _ _ _ (⟨_, .nilCheck _, _, _, _, _⟩ :: _) _ _ _; refine awl_pw ?wtq (pv_nilCheck rfl rfl) rfl rfl ?_)); case wtq => exact wtA) | refine awl_nil ?_)
  refine awp_loop (fun m w h => ∃ (k : Nat) (y : Int) (l' : List (List Int × AV)), KnownU s l' ∧ (k = 0 ∧ y = 0 ∨ k = 1 ∧ y = x * uN s n) ∧ m = 1 - k ∧ w = [(0, .v (ptrV gw)), (2, intA n), (4, .v (ptrV g4)), (6, .v (ptrV g6)), (17, .t (intsT c1 [x])), (18, intA 1), (19, intA k)] ∧ h = [.cl gw 206 [intA 1, .t (intsT c1 [x]), nilA, nilA, .t (splT c2 s), nilA, .v (.map (some gm))], mapE gm 2 l', .cl g4 62 [nilA, nilA], .cl g6 137 [intA y, intA 0, intA 0, intA 0]]) ?_ ⟨0, 0, l, hl, .inl ⟨rfl, rfl⟩, rfl, rfl, rfl⟩ ssA rcA
  rintro m w h ⟨k, y, l', hl', hk, rfl, rfl, rfl⟩
  rcases hk with ⟨rfl, rfl⟩ | ⟨rfl, rfl⟩
  · have d2 : decide (((0 : Nat) : Int) < 1) = true := rfl
    repeat (first | refine awp_seq ?_ | refine awp_block ?_ | refine awp_region_lit rfl ?_ | refine awp_skip ?_ | refine awp_cond_t rfl (by first | rfl | assumption | exact dT (by omega)) ?_ | ((first | (show AWL _ _ _ (⟨_, .move _, _, _, _, _⟩ :: _) _ _ _; refine awl_pw ?wtq (pv_move rfl rfl) rfl rfl ?_) | (show AWL _ _ _ (⟨_, .binOp .lss _ _ _ _, _, _, _, _⟩ :: _) _ _ _; refine awl_pw ?wtq (pv_lss rfl rfl rfl) rfl rfl ?_)); case wtq => exact wtA) | refine awl_nil ?_)
    refine awl_pw (wt_none rfl) (pv_ix_t T0 (kk := 0) rfl rfl rfl rfl (by simp) rfl) rfl rfl ?_
    repeat (first | refine awp_region_lit rfl ?_ | ((first | (show AWL _ _ _ (⟨_, .move _, _, _, _, _⟩ :: _) _ _ _; refine awl_pw ?wtq (pv_move rfl rfl) rfl rfl ?_) | (show AWL _ _ _ (⟨_, .assign _, _, _, _, _⟩ :: _) _ _ _; refine awl_pw ?wtq (pv_assign rfl rfl) rfl rfl ?_) | (show AWL _ _ _ (⟨_, .load _ _, _, _, _, _⟩ :: _) _ _ _; refine awl_lw ?wtq (lv_elt_sc T0 rfl rfl rfl rfl) rfl rfl rfl ?_) | (show AWL _ _ _ (⟨_, .build _ _, _, _, _, _⟩ :: _) _ _ _; refine awl_pw ?wtq (pv_build T0 rfl rfl rfl scA (by first | ((repeat' (first | exact BParts.nil | apply BParts.cons | rfl)); all_goals fail) | fail) (by first | ((repeat' (first | exact FillA.nil | exact Sp.done | apply FillA.cons | apply Sp.put | apply Sp.skip | (simp only [cellsA]; rfl) | rfl)); all_goals fail) | fail)) rfl rfl ?_)); case wtq => exact wtA) | refine awl_nil ?_)
    refine awl_hw wtA (st_acall T0 (units_o gw gm c1 c2 x s hv n hn l' hl') rfl rfl rfl rfl (by first | exact callee_lit | exact callee_v | exact callee_fn | assumption) rcA raA rfl (by first | ((repeat' (first | exact SubH.refl _ | apply SubH.cons | exact Pick.here | apply Pick.there)); all_goals fail) | fail) (fun _ _ => trivial) ?_)
    rintro r h ⟨rfl, l2, hl2, rfl⟩
    simp only [List.cons_append, List.nil_append]
    repeat (first | refine awp_region_lit rfl ?_ | ((first | (show AWL _ _ _ (⟨_, .move _, _, _, _, _⟩ :: _) _ _ _; refine awl_pw ?wtq (pv_move rfl rfl) rfl rfl ?_) | (show AWL _ _ _ (⟨_, .indexAddr _ _ _, _, _, _, _⟩ :: _) _ _ _; refine awl_pw ?wtq (pv_ix_arr T0 rfl rfl rfl rfl (by omega) (by simp; rfl)) rfl rfl ?_) | (show AWL _ _ _ (⟨_, .binOp .add _ _ _ _, _, _, _, _⟩ :: _) _ _ _; refine awl_pw ?wtq (pv_add rfl rfl rfl (by first | assumption | exact wr64 (by omega))) rfl rfl ?_)); case wtq => exact wtA) | (show AWL _ _ _ (⟨_, .store _ _ _, _, _, _, _⟩ :: _) _ _ _; refine awl_hw wtA (st_store T0 rfl rfl rfl rfl rfl (by first | assumption | (simp only [cellsA]; rfl)) rfl rfl rfl rcA rcA trivial ?_)) | refine awl_nil ?_)
    refine rnd_n _ _ _ ?_ ⟨1, x * uN s n, l2, hl2, .inr ⟨rfl, rfl⟩, rfl, rfl, rfl⟩ ssA rcA
    omega
  · have d2 : decide (((1 : Nat) : Int) < 1) = false := rfl
    repeat (first | refine awp_seq ?_ | refine awp_block ?_ | refine awp_region_lit rfl ?_ | refine awp_exit ?_ | refine awp_cond_f rfl (by first | rfl | assumption | exact dF (by omega)) ?_ | ((first | (show AWL _ _ _ (⟨_, .move _, _, _, _, _⟩ :: _) _ _ _; refine awl_pw ?wtq (pv_move rfl rfl) rfl rfl ?_) | (show AWL _ _ _ (⟨_, .load _ _, _, _, _, _⟩ :: _) _ _ _; refine awl_lw ?wtq (lv_cl1 T0 rfl rfl rfl rcA raA) rfl rfl rfl ?_) | (show AWL _ _ _ (⟨_, .fieldAddr _ _ _, _, _, _, _⟩ :: _) _ _ _; refine awl_pw ?wtq (pv_fa T0 rfl rfl rfl (by simp; rfl)) rfl rfl ?_) | (show AWL _ _ _ (⟨_, .binOp .lss _ _ _ _, _, _, _, _⟩ :: _) _ _ _; refine awl_pw ?wtq (pv_lss rfl rfl rfl) rfl rfl ?_) | (show AWL _ _ _ (⟨_, .call ⟨.builtin .len, _, _⟩, _, _, _, _⟩ :: _) _ _ _; refine awl_pw ?wtq (pv_len_v T0 rfl rfl rfl) rfl rfl ?_) | (show AWL _ _ _ (⟨_, .nilCheck _, _, _, _, _⟩ :: _) _ _ _; refine awl_pw ?wtq (pv_nilCheck rfl rfl) rfl rfl ?_)); case wtq => exact wtA) | refine awl_nil ?_)
    refine awp_loop (fun m w h => m = 0 ∧ w = [(0, .v (ptrV gw)), (2, intA n), (4, .v (ptrV g4)), (6, .v (ptrV g6)), (37, intA 0), (38, intA 0)] ∧ h = [.cl gw 206 [intA 1, .t (intsT c1 [x]), nilA, nilA, .t (splT c2 s), nilA, .v (.map (some gm))], mapE gm 2 l', .cl g4 62 [nilA, nilA], .cl g6 137 [intA (x * uN s n), intA 0, intA 0, intA 0]]) ?_ ⟨rfl, rfl, rfl⟩ ssA rcA
    rintro m w h ⟨rfl, rfl, rfl⟩
    repeat (first | refine awp_seq ?_ | refine awp_region_lit rfl ?_ | refine awp_exit ?_ | refine awp_ret ?_ | refine awp_cond_f rfl (by first | rfl | assumption | exact dF (by omega)) ?_ | ((first | (show AWL _ _ _ (⟨_, .load _ _, _, _, _, _⟩ :: _) _ _ _; refine awl_lw ?wtq (lv_cla T0 rfl rfl rfl rcA rfl) rfl rfl rfl ?_) | (show AWL _ _ _ (⟨_, .binOp .lss _ _ _ _, _, _, _, _⟩ :: _) _ _ _; refine awl_pw ?wtq (pv_lss rfl rfl rfl) rfl rfl ?_)); case wtq => exact wtA) | (show AWL _ _ _ (⟨_, .store _ _ _, _, _, _, _⟩ :: _) _ _ _; refine awl_hw wtA (st_store T0 rfl rfl rfl rfl rfl (by first | assumption | (simp only [cellsA]; rfl)) rfl rfl rfl rcA rcA trivial ?_)) | refine awl_nil ?_)
    exact body_r (h' := wkE gw gm c1 c2 x s l') (res_cell rfl rfl rcA rfl rfl rfl .nil) rcA ⟨rfl, l', hl', rfl⟩
theorem fits_o (gw gm : Nat) (c1 c2 : Bool) (x : Int) (s : SplD) (hv : VSpl x s) (l : List (List Int × AV)) (hl : KnownU s l) :
    ACall Try.prog 79 [.v (ptrV gw), truA] (wkE gw gm c1 c2 x s l) (fun r h' => r = boolA true ∧ ∃ l', KnownU s l' ∧ h' = wkE gw gm c1 c2 x s l') := by
  refine acall_of_awp T0 Try.func79 rfl rfl rfl ?_
  repeat (first | refine awp_seq ?_ | refine awp_region_lit rfl ?_)
  refine awl_hw wtA (st_box rfl rfl raA (by first | assumption | (simp only [cellsA]; rfl)) rfl rfl ?_)
  intro g3
  repeat (first | refine awp_seq ?_ | refine awp_region_lit rfl ?_ | ((first | (show AWL _ _ _ (⟨_, .assign _, _, _, _, _⟩ :: _) _ _ _; refine awl_pw ?wtq (pv_assign rfl rfl) rfl rfl ?_)); case wtq => exact wtA) | refine awl_nil ?_)
  refine awl_hw wtA (st_alloc T0 rfl rfl rfl rfl scA ?_)
  intro g5
  repeat (first | refine awp_seq ?_ | refine awp_block ?_ | refine awp_region_lit rfl ?_ | ((first | (show AWL _ _ _ (⟨_, .move _, _, _, _, _⟩ :: _) _ _ _; refine awl_pw ?wtq (pv_move rfl rfl) rfl rfl ?_)); case wtq => exact wtA) | refine awl_nil ?_)
  refine awp_loop (fun m w h => ∃ (k : Nat) (y : Int) (l' : List (List Int × AV)), KnownU s l' ∧ k ≤ 12 ∧ m = 12 - k ∧ w = [(0, .v (ptrV gw)), (3, .v (ptrV g3)), (5, .v (ptrV g5)), (8, intA k)] ∧ h = [.cl gw 206 [intA 1, .t (intsT c1 [x]), nilA, nilA, .t (splT c2 s), nilA, .v (.map (some gm))], mapE gm 2 l', .cl g3 62 [nilA, nilA], .cl g5 137 [intA y, intA 0, intA 0, intA 0]]) ?_ ⟨0, 0, l, hl, by omega, rfl, rfl, rfl⟩ ssA rcA
  rintro m w h ⟨k, y, l', hl', hk, rfl, rfl, rfl⟩
  by_cases hlt : k < 12
  case neg =>
    obtain rfl : k = 12 := by omega
    have d2 : decide (((12 : Nat) : Int) < 12) = false := rfl
    repeat (first | refine awp_seq ?_ | refine awp_region_lit rfl ?_ | refine awp_exit ?_ | refine awp_ret ?_ | refine awp_cond_f rfl (by first | rfl | assumption | exact dF (by omega)) ?_ | ((first | (show AWL _ _ _ (⟨_, .assign _, _, _, _, _⟩ :: _) _ _ _; refine awl_pw ?wtq (pv_assign rfl rfl) rfl rfl ?_) | (show AWL _ _ _ (⟨_, .binOp .lss _ _ _ _, _, _, _, _⟩ :: _) _ _ _; refine awl_pw ?wtq (pv_lss rfl rfl rfl) rfl rfl ?_)); case wtq => exact wtA) | refine awl_nil ?_)
    exact body_r (h' := wkE gw gm c1 c2 x s l') (.cons rfl .nil) rcA ⟨rfl, l', hl', rfl⟩
  have d2 : decide ((k : Int) < 12) = true := decide_eq_true (by omega)
  have hu := uN_bd hv (k : Int)
  have hz := Int.mul_nonneg hv.held.1 hu.1
  repeat (first | refine awp_seq ?_ | refine awp_block ?_ | refine awp_region_lit rfl ?_ | refine awp_skip ?_ | refine awp_cond_t rfl (by first | rfl | assumption | exact dT (by omega)) ?_ | ((first | (show AWL _ _ _ (⟨_, .move _, _, _, _, _⟩ :: _) _ _ _; refine awl_pw ?wtq (pv_move rfl rfl) rfl rfl ?_) | (show AWL _ _ _ (⟨_, .assign _, _, _, _, _⟩ :: _) _ _ _; refine awl_pw ?wtq (pv_assign rfl rfl) rfl rfl ?_) | (show AWL _ _ _ (⟨_, .load _ _, _, _, _, _⟩ :: _) _ _ _; refine awl_lw ?wtq (lv_cla T0 rfl rfl rfl rcA rfl) rfl rfl rfl ?_) | (show AWL _ _ _ (⟨_, .binOp .lss _ _ _ _, _, _, _, _⟩ :: _) _ _ _; refine awl_pw ?wtq (pv_lss rfl rfl rfl) rfl rfl ?_)); case wtq => exact wtA) | refine awl_nil ?_)
  refine awl_hw wtA (st_acall T0 (held_o gw gm c1 c2 x s hv k (by omega) l' hl') rfl rfl rfl rfl (by first | exact callee_lit | exact callee_v | exact callee_fn | assumption) rcA raA rfl (by first | ((repeat' (first | exact SubH.refl _ | apply SubH.cons | exact Pick.here | apply Pick.there)); all_goals fail) | fail) (fun _ _ => trivial) ?_)
  rintro r h ⟨rfl, l2, hl2, rfl⟩
  simp only [List.cons_append, List.nil_append]
  skip
  refine awl_hw wtA (st_alloc T0 rfl rfl rfl rfl scA ?_)
  intro g7
  repeat (first | refine awp_seq ?_ | refine awp_region_lit rfl ?_ | ((first | (show AWL _ _ _ (⟨_, .load _ _, _, _, _, _⟩ :: _) _ _ _; refine awl_lw ?wtq (lv_cla T0 rfl rfl rfl rcA rfl) rfl rfl rfl ?_)); case wtq => exact wtA) | (show AWL _ _ _ (⟨_, .store _ _ _, _, _, _, _⟩ :: _) _ _ _; refine awl_hw wtA (st_store T0 rfl rfl rfl rfl rfl (by first | assumption | (simp only [cellsA]; rfl)) rfl rfl rfl rcA rcA trivial ?_)) | refine awl_nil ?_)
  refine awl_pw (wt_none rfl) (pv_cmpK rfl rfl rfl (kas4 _ _ _ _) (kas4 _ _ _ _) (cmp_arr [x * uN s k, 0, 0, 0] [y, 0, 0, 0] _ _ rfl)) rfl rfl ?_
  cases hcmp : decide (M.pad4 [x * uN s k, 0, 0, 0] = M.pad4 [y, 0, 0, 0])
  · repeat (first | refine awp_seq ?_ | refine awp_region_lit rfl ?_ | refine awp_skip ?_ | with_reducible refine then_n ?_ | refine awp_cond_f rfl (by first | rfl | assumption | exact dF (by omega)) ?_ | ((first | (show AWL _ _ _ (⟨_, .slice _ _ _ _ _, _, _, _, _⟩ :: _) _ _ _; refine awl_pw ?wtq (pv_slice_arr T0 rfl rfl rfl) rfl rfl ?_)); case wtq => exact wtA) | refine awl_nil ?_)
    have hbr := acall_borrowC (g := g7) (T := 137) (cs := [intA (x * uN s k), intA 0, intA 0, intA 0]) (n := 4) (c := 4) (f := fun q => [.sc (.int .i64 (([x * uN s k, 0, 0, 0] : List Int).getD q 0))]) (u := .int .i64 0) (min_p (x * uN s k) hz) (Nat.le_refl 4) (fun q hq => by
      have : q = 0 ∨ q = 1 ∨ q = 2 ∨ q = 3 := by omega
      rcases this with rfl | rfl | rfl | rfl <;> exact ⟨_, rfl, rfl⟩)
    refine awl_hw wtA (st_acall T0 (hbr) rfl rfl rfl rfl (by first | exact callee_lit | exact callee_v | exact callee_fn | assumption) rcA raA rfl (by first | ((repeat' (first | exact SubH.refl _ | apply SubH.cons | exact Pick.here | apply Pick.there)); all_goals fail) | fail) (fun _ _ => trivial) ?_)
    rintro r h ⟨rfl, rfl⟩
    simp only [List.cons_append, List.nil_append]
    repeat (first | refine awp_region_lit rfl ?_ | refine awp_skip ?_ | with_reducible refine then_n ?_ | refine awp_cond_f rfl (by first | rfl | assumption | exact dF (by omega)) ?_ | ((first | (show AWL _ _ _ (⟨_, .move _, _, _, _, _⟩ :: _) _ _ _; refine awl_pw ?wtq (pv_move rfl rfl) rfl rfl ?_) | (show AWL _ _ _ (⟨_, .load _ _, _, _, _, _⟩ :: _) _ _ _; refine awl_lw ?wtq (lv_cla T0 rfl rfl rfl rcA rfl) rfl rfl rfl ?_) | (show AWL _ _ _ (⟨_, .binOp .add _ _ _ _, _, _, _, _⟩ :: _) _ _ _; refine awl_pw ?wtq (pv_add rfl rfl rfl (by first | assumption | exact wr64 (by omega))) rfl rfl ?_) | (show AWL _ _ _ (⟨_, .binOp .lss _ _ _ _, _, _, _, _⟩ :: _) _ _ _; refine awl_pw ?wtq (pv_lss rfl rfl rfl) rfl rfl ?_)); case wtq => exact wtA) | (show AWL _ _ _ (⟨_, .store _ _ _, _, _, _, _⟩ :: _) _ _ _; refine awl_hw wtA (st_store T0 rfl rfl rfl rfl rfl (by first | assumption | (simp only [cellsA]; rfl)) rfl rfl rfl rcA rcA trivial ?_)) | refine awl_nil ?_)
    refine rnd_n _ _ _ ?_ ⟨k + 1, x * uN s k, l2, hl2, by omega, rfl, rfl, rfl⟩ ssA rcA
    omega
  · repeat (first | refine awp_region_lit rfl ?_ | refine awp_exit ?_ | with_reducible refine then_n ?_ | refine awp_cond_t rfl (by first | rfl | assumption | exact dT (by omega)) ?_ | ((first | (show AWL _ _ _ (⟨_, .move _, _, _, _, _⟩ :: _) _ _ _; refine awl_pw ?wtq (pv_move rfl rfl) rfl rfl ?_) | (show AWL _ _ _ (⟨_, .binOp .add _ _ _ _, _, _, _, _⟩ :: _) _ _ _; refine awl_pw ?wtq (pv_add rfl rfl rfl (by first | assumption | exact wr64 (by omega))) rfl rfl ?_)); case wtq => exact wtA) | refine awl_nil ?_)
    refine rnd_n _ _ _ ?_ ⟨k + 1, y, l2, hl2, by omega, rfl, rfl, rfl⟩ ssA rcA
    omega
theorem dated_p (c1 c2 : Bool) (x : Int) (s : SplD) : PCall Try.prog 78 [comA c1 c2 x s, truA] (fun r => r = boolA true) := by
  refine acall_of_awp T0 Try.func78 rfl rfl rfl ?_
  repeat (first | refine awp_seq ?_ | refine awp_region_lit rfl ?_)
  refine awl_hw wtA (st_box rfl rfl raA (by first | assumption | (simp only [cellsA]; rfl)) rfl rfl ?_)
  intro g2
  skip
  refine awl_hw wtA (st_box rfl rfl raA (by first | assumption | (simp only [cellsA]; rfl)) rfl rfl ?_)
  intro g3
  repeat (first | refine awp_seq ?_ | refine awp_block ?_ | refine awp_region_lit rfl ?_ | refine awp_skip ?_ | with_reducible refine then_n ?_ | refine awp_cond_f rfl (by first | rfl | assumption | exact dF (by omega)) ?_ | ((first | (show AWL _ _ _ (⟨_, .move _, _, _, _, _⟩ :: _) _ _ _; refine awl_pw ?wtq (pv_move rfl rfl) rfl rfl ?_) | (show AWL _ _ _ (⟨_, .assign _, _, _, _, _⟩ :: _) _ _ _; refine awl_pw ?wtq (pv_assign rfl rfl) rfl rfl ?_) | (show AWL _ _ _ (⟨_, .load _ _, _, _, _, _⟩ :: _) _ _ _; refine awl_lw ?wtq (lv_cl1 T0 rfl rfl rfl rcA raA) rfl rfl rfl ?_) | (show AWL _ _ _ (⟨_, .fieldAddr _ _ _, _, _, _, _⟩ :: _) _ _ _; refine awl_pw ?wtq (pv_fa T0 rfl rfl rfl (by simp; rfl)) rfl rfl ?_) | (show AWL _ _ _ (⟨_, .binOp .neq _ _ _ _, _, _, _, _⟩ :: _) _ _ _; refine awl_pw ?wtq (pv_neq rfl rfl rfl) rfl rfl ?_) | (show AWL _ _ _ (⟨_, .call ⟨.builtin .len, _, _⟩, _, _, _, _⟩ :: _) _ _ _; refine awl_pw ?wtq (pv_len_v T0 rfl rfl rfl) rfl rfl ?_) | (show AWL _ _ _ (⟨_, .pick _ _ _, _, _, _, _⟩ :: _) _ _ _; refine awl_pw ?wtq (pv_pick_f rfl rfl tfA rfl) rfl rfl ?_)); case wtq => exact wtA) | refine awl_nil ?_)
  refine awp_loop (fun m w h => m = 0 ∧ w = [(2, .v (ptrV g2)), (3, .v (ptrV g3)), (24, nilA), (25, intA 0), (26, intA 0)] ∧ h = [.cl g2 51 (comC c1 c2 x s), .cl g3 62 [nilA, nilA]]) ?_ ⟨rfl, rfl, rfl⟩ ssA rcA
  rintro m w h ⟨rfl, rfl, rfl⟩
  repeat (first | refine awp_seq ?_ | refine awp_region_lit rfl ?_ | refine awp_exit ?_ | refine awp_ret ?_ | refine awp_cond_f rfl (by first | rfl | assumption | exact dF (by omega)) ?_ | ((first | (show AWL _ _ _ (⟨_, .assign _, _, _, _, _⟩ :: _) _ _ _; refine awl_pw ?wtq (pv_assign rfl rfl) rfl rfl ?_) | (show AWL _ _ _ (⟨_, .binOp .lss _ _ _ _, _, _, _, _⟩ :: _) _ _ _; refine awl_pw ?wtq (pv_lss rfl rfl rfl) rfl rfl ?_)); case wtq => exact wtA) | refine awl_nil ?_)
  exact body_p (.cons rfl .nil) rfl
theorem asked_o (c1 c2 : Bool) (x : Int) (s : SplD) (hv : VSpl x s) : ACall Try.prog 38 [comA c1 c2 x s, truA] [] (fun r h' => ∃ gw gm l, KnownU s l ∧ r = .tup [.v (ptrV gw), intA 0] ∧ h' = wkE gw gm c1 c2 x s l) := by
  refine acall_of_awp T0 Try.func38 rfl rfl rfl ?_
  repeat (first | refine awp_seq ?_ | refine awp_region_lit rfl ?_)
  refine awl_hw wtA (st_box rfl rfl raA (by first | assumption | (simp only [cellsA]; rfl)) rfl rfl ?_)
  intro g2
  skip
  refine awl_hw wtA (st_box rfl rfl raA (by first | assumption | (simp only [cellsA]; rfl)) rfl rfl ?_)
  intro g3
  repeat (first | refine awp_seq ?_ | refine awp_region_lit rfl ?_ | ((first | (show AWL _ _ _ (⟨_, .assign _, _, _, _, _⟩ :: _) _ _ _; refine awl_pw ?wtq (pv_assign rfl rfl) rfl rfl ?_) | (show AWL _ _ _ (⟨_, .load _ _, _, _, _, _⟩ :: _) _ _ _; refine awl_lw ?wtq (lv_cla T0 rfl rfl rfl rcA rfl) rfl rfl rfl ?_)); case wtq => exact wtA) | refine awl_nil ?_)
  refine awl_hw wtA (st_call T0 (company_p c1 c2 x s hv) rfl rfl rfl rfl (by first | exact callee_lit | exact callee_v | exact callee_fn | assumption) rcA raA rfl ?_)
  rintro _ rfl
  repeat (first | refine awp_seq ?_ | refine awp_region_lit rfl ?_ | refine awp_skip ?_ | with_reducible refine then_n ?_ | refine awp_cond_f rfl (by first | rfl | assumption | exact dF (by omega)) ?_ | ((first | (show AWL _ _ _ (⟨_, .move _, _, _, _, _⟩ :: _) _ _ _; refine awl_pw ?wtq (pv_move rfl rfl) rfl rfl ?_) | (show AWL _ _ _ (⟨_, .assign _, _, _, _, _⟩ :: _) _ _ _; refine awl_pw ?wtq (pv_assign rfl rfl) rfl rfl ?_) | (show AWL _ _ _ (⟨_, .load _ _, _, _, _, _⟩ :: _) _ _ _; refine awl_lw ?wtq (lv_cla T0 rfl rfl rfl rcA rfl) rfl rfl rfl ?_) | (show AWL _ _ _ (⟨_, .binOp .neq _ _ _ _, _, _, _, _⟩ :: _) _ _ _; refine awl_pw ?wtq (pv_neq rfl rfl rfl) rfl rfl ?_)); case wtq => exact wtA) | refine awl_nil ?_)
  refine awl_hw wtA (st_acall T0 (cwork_o c1 c2 x s) rfl rfl rfl rfl (by first | exact callee_lit | exact callee_v | exact callee_fn | assumption) rcA raA rfl (by first | ((repeat' (first | exact SubH.refl _ | apply SubH.cons | exact Pick.here | apply Pick.there)); all_goals fail) | fail) (fun _ _ => trivial) ?_)
  rintro r h ⟨gw, gm, rfl, rfl⟩
  simp only [wkE, List.cons_append, List.nil_append]
  repeat (first | refine awp_seq ?_ | refine awp_block ?_ | refine awp_region_lit rfl ?_ | ((first | (show AWL _ _ _ (⟨_, .assign _, _, _, _, _⟩ :: _) _ _ _; refine awl_pw ?wtq (pv_assign rfl rfl) rfl rfl ?_) | (show AWL _ _ _ (⟨_, .load _ _, _, _, _, _⟩ :: _) _ _ _; refine awl_lw ?wtq (lv_cla T0 rfl rfl rfl rcA rfl) rfl rfl rfl ?_)); case wtq => exact wtA) | refine awl_nil ?_)
  refine awl_hw wtA (st_call T0 (dated_p c1 c2 x s) rfl rfl rfl rfl (by first | exact callee_lit | exact callee_v | exact callee_fn | assumption) rcA raA rfl ?_)
  rintro _ rfl
  repeat (first | refine awp_seq ?_ | refine awp_region_lit rfl ?_ | with_reducible refine then_n ?_ | refine awp_cond_f rfl (by first | rfl | assumption | exact dF (by omega)) ?_ | ((first | (show AWL _ _ _ (⟨_, .move _, _, _, _, _⟩ :: _) _ _ _; refine awl_pw ?wtq (pv_move rfl rfl) rfl rfl ?_) | (show AWL _ _ _ (⟨_, .assign _, _, _, _, _⟩ :: _) _ _ _; refine awl_pw ?wtq (pv_assign rfl rfl) rfl rfl ?_) | (show AWL _ _ _ (⟨_, .load _ _, _, _, _, _⟩ :: _) _ _ _; refine awl_lw ?wtq (lv_cla T0 rfl rfl rfl rcA rfl) rfl rfl rfl ?_) | (show AWL _ _ _ (⟨_, .unOp .not _ _, _, _, _, _⟩ :: _) _ _ _; refine awl_pw ?wtq (pv_not rfl rfl) rfl rfl ?_)); case wtq => exact wtA) | refine awl_nil ?_)
  refine awl_hw wtA (st_acall T0 (fits_o gw gm c1 c2 x s hv [] KnownU.nil) rfl rfl rfl rfl (by first | exact callee_lit | exact callee_v | exact callee_fn | assumption) rcA raA rfl (by first | ((repeat' (first | exact SubH.refl _ | apply SubH.cons | exact Pick.here | apply Pick.there)); all_goals fail) | fail) (fun _ _ => trivial) ?_)
  rintro r h ⟨rfl, l, hl, rfl⟩
  simp only [wkE, List.cons_append, List.nil_append]
  repeat (first | refine awp_seq ?_ | refine awp_region_lit rfl ?_ | refine awp_skip ?_ | refine awp_ret ?_ | with_reducible refine then_n ?_ | refine awp_cond_f rfl (by first | rfl | assumption | exact dF (by omega)) ?_ | ((first | (show AWL _ _ _ (⟨_, .move _, _, _, _, _⟩ :: _) _ _ _; refine awl_pw ?wtq (pv_move rfl rfl) rfl rfl ?_) | (show AWL _ _ _ (⟨_, .assign _, _, _, _, _⟩ :: _) _ _ _; refine awl_pw ?wtq (pv_assign rfl rfl) rfl rfl ?_) | (show AWL _ _ _ (⟨_, .unOp .not _ _, _, _, _, _⟩ :: _) _ _ _; refine awl_pw ?wtq (pv_not rfl rfl) rfl rfl ?_)); case wtq => exact wtA) | refine awl_nil ?_)
  exact body_r (h' := wkE gw gm c1 c2 x s l) (.cons rfl (.cons rfl .nil)) rcA ⟨gw, gm, l, hl, rfl, rfl⟩
theorem whole_p (c1 c2 : Bool) (x : Int) (s : SplD) (hv : VSpl x s) (n : Int) (hn : 0 ≤ n ∧ n ≤ 11) : PCall Try.prog 11 [comA c1 c2 x s, truA, intA n] (fun r => r = .tup [.t (intsT true [(x * uN s n).tdiv 720]), .t (intsT true [(x * uN s n).tmod 720]), intA 0]) := by
  have hx := hv.held
  have hu := uN_bd hv n
  have m0 := Int.mul_nonneg hx.1 hu.1
  have m1 : x * uN s n ≤ 100 * 4320 := Int.mul_le_mul hx.2 hu.2 hu.1 (by decide)
  have hq : (x * uN s n).tdiv 720 = x * uN s n / 720 := Int.tdiv_eq_ediv_of_nonneg m0
  have hqw : IntKind.i64.wrap ((x * uN s n).tdiv 720) = (x * uN s n).tdiv 720 := wr64 (by rw [hq]; omega)
  refine acall_of_awp T0 Try.func11 rfl rfl rfl ?_
  repeat (first | refine awp_seq ?_ | refine awp_region_lit rfl ?_)
  refine awl_hw wtA (st_box rfl rfl raA (by first | assumption | (simp only [cellsA]; rfl)) rfl rfl ?_)
  intro g3
  skip
  refine awl_hw wtA (st_box rfl rfl raA (by first | assumption | (simp only [cellsA]; rfl)) rfl rfl ?_)
  intro g4
  repeat (first | refine awp_seq ?_ | refine awp_region_lit rfl ?_ | ((first | (show AWL _ _ _ (⟨_, .assign _, _, _, _, _⟩ :: _) _ _ _; refine awl_pw ?wtq (pv_assign rfl rfl) rfl rfl ?_) | (show AWL _ _ _ (⟨_, .load _ _, _, _, _, _⟩ :: _) _ _ _; refine awl_lw ?wtq (lv_cla T0 rfl rfl rfl rcA rfl) rfl rfl rfl ?_)); case wtq => exact wtA) | refine awl_nil ?_)
  refine awl_hw wtA (st_acall T0 (asked_o c1 c2 x s hv) rfl rfl rfl rfl (by first | exact callee_lit | exact callee_v | exact callee_fn | assumption) rcA raA rfl (by first | ((repeat' (first | exact SubH.refl _ | apply SubH.cons | exact Pick.here | apply Pick.there)); all_goals fail) | fail) (fun _ _ => trivial) ?_)
  rintro r h ⟨gw, gm, l, hl, rfl, rfl⟩
  simp only [wkE, List.cons_append, List.nil_append]
  repeat (first | refine awp_seq ?_ | refine awp_region_lit rfl ?_ | refine awp_skip ?_ | with_reducible refine then_n ?_ | refine awp_cond_f rfl (by first | rfl | assumption | exact dF (by omega)) ?_ | ((first | (show AWL _ _ _ (⟨_, .move _, _, _, _, _⟩ :: _) _ _ _; refine awl_pw ?wtq (pv_move rfl rfl) rfl rfl ?_) | (show AWL _ _ _ (⟨_, .assign _, _, _, _, _⟩ :: _) _ _ _; refine awl_pw ?wtq (pv_assign rfl rfl) rfl rfl ?_) | (show AWL _ _ _ (⟨_, .binOp .neq _ _ _ _, _, _, _, _⟩ :: _) _ _ _; refine awl_pw ?wtq (pv_neq rfl rfl rfl) rfl rfl ?_) | (show AWL _ _ _ (⟨_, .extract _ _, _, _, _, _⟩ :: _) _ _ _; refine awl_pw ?wtq (pv_extract rfl rfl rfl) rfl rfl ?_)); case wtq => exact wtA) | refine awl_nil ?_)
  refine awl_hw wtA (st_call T0 (day_q hn) rfl rfl rfl rfl (by first | exact callee_lit | exact callee_v | exact callee_fn | assumption) rcA raA rfl ?_)
  rintro _ rfl
  repeat (first | refine awp_seq ?_ | refine awp_region_lit rfl ?_ | refine awp_skip ?_ | with_reducible refine then_n ?_ | refine awp_cond_f rfl (by first | rfl | assumption | exact dF (by omega)) ?_ | ((first | (show AWL _ _ _ (⟨_, .move _, _, _, _, _⟩ :: _) _ _ _; refine awl_pw ?wtq (pv_move rfl rfl) rfl rfl ?_) | (show AWL _ _ _ (⟨_, .load _ _, _, _, _, _⟩ :: _) _ _ _; refine awl_lw ?wtq (lv_cla T0 rfl rfl rfl rcA rfl) rfl rfl rfl ?_) | (show AWL _ _ _ (⟨_, .unOp .not _ _, _, _, _, _⟩ :: _) _ _ _; refine awl_pw ?wtq (pv_not rfl rfl) rfl rfl ?_)); case wtq => exact wtA) | refine awl_nil ?_)
  refine awl_hw wtA (st_acall T0 (held_o gw gm c1 c2 x s hv n hn l hl) rfl rfl rfl rfl (by first | exact callee_lit | exact callee_v | exact callee_fn | assumption) rcA raA rfl (by first | ((repeat' (first | exact SubH.refl _ | apply SubH.cons | exact Pick.here | apply Pick.there)); all_goals fail) | fail) (fun _ _ => trivial) ?_)
  rintro r h ⟨rfl, l2, hl2, rfl⟩
  simp only [wkE, List.cons_append, List.nil_append]
  skip
  refine awl_hw wtA (st_alloc T0 rfl rfl rfl rfl scA ?_)
  intro g10
  repeat (first | refine awp_seq ?_ | refine awp_region_lit rfl ?_ | ((first | (show AWL _ _ _ (⟨_, .load _ _, _, _, _, _⟩ :: _) _ _ _; refine awl_lw ?wtq (lv_cl1 T0 rfl rfl rfl rcA raA) rfl rfl rfl ?_) | (show AWL _ _ _ (⟨_, .fieldAddr _ _ _, _, _, _, _⟩ :: _) _ _ _; refine awl_pw ?wtq (pv_fa T0 rfl rfl rfl (by simp; rfl)) rfl rfl ?_)); case wtq => exact wtA) | (show AWL _ _ _ (⟨_, .store _ _ _, _, _, _, _⟩ :: _) _ _ _; refine awl_hw wtA (st_store T0 rfl rfl rfl rfl rfl (by first | assumption | (simp only [cellsA]; rfl)) rfl rfl rfl rcA rcA trivial ?_)) | refine awl_nil ?_)
  refine awl_pw (wt_none rfl) (pv_slice_arr_hi T0 (k := 1) rfl rfl rfl rfl (by decide)) rfl rfl ?_
  refine awl_ghost (ghost_freezeC (d := 31) (g := g10) (n := 1) (c := 4) (T := 137) (cs := [intA (x * uN s n), intA 0, intA 0, intA 0]) (fun _ => [.sc (.int .i64 (x * uN s n))]) rcA rfl (by decide) (fun k hk => by
    obtain rfl : k = 0 := by omega
    exact ⟨_, rfl, rfl⟩)) ?_
  repeat (first | refine awp_block ?_ | ((first | (show AWL _ _ _ (⟨_, .move _, _, _, _, _⟩ :: _) _ _ _; refine awl_pw ?wtq (pv_move rfl rfl) rfl rfl ?_) | (show AWL _ _ _ (⟨_, .call ⟨.builtin .len, _, _⟩, _, _, _, _⟩ :: _) _ _ _; refine awl_pw ?wtq (pv_len_t T0 rfl rfl rfl) rfl rfl ?_)); case wtq => exact wtA) | refine awl_nil ?_)
  refine awp_ghost (ghost_nilrow 3 1) ?_
  refine awp_ghost (ghost_nilrow 3 1) ?_
  refine awp_loop (fun m w h => ∃ (k : Nat) (a a' : Option Addr) (c c' : Nat) (r1 r2 : List (List AV)), (k = 0 ∧ r1 = [] ∧ r2 = [] ∨ k = 1 ∧ r1 = [[intA ((x * uN s n).tdiv 720)]] ∧ r2 = [[intA ((x * uN s n).tmod 720)]]) ∧ m = 1 - k ∧ w = [(6, .v (.slice a k c)), (7, .v (.slice a' k c')), (31, .t (.sl true 1 1 (fun _ => [.sc (.int .i64 (x * uN s n))]))), (32, intA 1), (33, intA k)] ∧ h = [.rw (.slice a k c) 3 1 r1, .rw (.slice a' k c') 3 1 r2]) ?_ ⟨0, none, none, 0, 0, [], [], .inl ⟨rfl, rfl, rfl⟩, rfl, rfl, rfl⟩ ssA rcA
  rintro m w h ⟨k, a, a', c, c', r1, r2, hk, rfl, rfl, rfl⟩
  rcases hk with ⟨rfl, rfl, rfl⟩ | ⟨rfl, rfl, rfl⟩
  · have d2 : decide (((0 : Nat) : Int) < 1) = true := rfl
    have z : ([] : List (List AV)).length = 0 := rfl
    repeat (first | refine awp_seq ?_ | refine awp_block ?_ | refine awp_region_lit rfl ?_ | refine awp_skip ?_ | refine awp_cond_t rfl (by first | rfl | assumption | exact dT (by omega)) ?_ | ((first | (show AWL _ _ _ (⟨_, .move _, _, _, _, _⟩ :: _) _ _ _; refine awl_pw ?wtq (pv_move rfl rfl) rfl rfl ?_) | (show AWL _ _ _ (⟨_, .assign _, _, _, _, _⟩ :: _) _ _ _; refine awl_pw ?wtq (pv_assign rfl rfl) rfl rfl ?_) | (show AWL _ _ _ (⟨_, .load _ _, _, _, _, _⟩ :: _) _ _ _; refine awl_lw ?wtq (lv_elt_sc T0 rfl rfl rfl rfl) rfl rfl rfl ?_) | (show AWL _ _ _ (⟨_, .indexAddr _ _ _, _, _, _, _⟩ :: _) _ _ _; refine awl_pw ?wtq (pv_ix_t T0 rfl rfl rfl rfl (by omega) ixA) rfl rfl ?_) | (show AWL _ _ _ (⟨_, .binOp .quo _ _ _ _, _, _, _, _⟩ :: _) _ _ _; refine awl_pw ?wtq (pv_quo rfl rfl rfl (by omega) (by first | assumption | exact wr64 (by omega))) rfl rfl ?_) | (show AWL _ _ _ (⟨_, .binOp .lss _ _ _ _, _, _, _, _⟩ :: _) _ _ _; refine awl_pw ?wtq (pv_lss rfl rfl rfl) rfl rfl ?_)); case wtq => exact wtA) | refine awl_nil ?_)
    refine awl_hw wtA (st_bsl T0 rfl rfl rfl rfl rfl rcA rfl rfl rfl rfl (by simp only [List.map_cons, List.map_nil, cellsA]; rfl) ?_)
    intro g40
    skip
    refine awl_hw wtA (st_app T0 rfl rfl rfl rfl rfl rfl rfl rfl rfl rcA rcA rfl rfl z (by omega) (fun _ _ => trivial) ?_)
    intro a41 c41 p41
    repeat (first | ((first | (show AWL _ _ _ (⟨_, .move _, _, _, _, _⟩ :: _) _ _ _; refine awl_pw ?wtq (pv_move rfl rfl) rfl rfl ?_) | (show AWL _ _ _ (⟨_, .binOp .rem _ _ _ _, _, _, _, _⟩ :: _) _ _ _; refine awl_pw ?wtq (pv_rem rfl rfl rfl (by omega) (by first | assumption | rfl)) rfl rfl ?_)); case wtq => exact wtA))
    refine awl_hw wtA (st_bsl T0 rfl rfl rfl rfl rfl rcA rfl rfl rfl rfl (by simp only [List.map_cons, List.map_nil, cellsA]; rfl) ?_)
    intro g45
    skip
    refine awl_hw wtA (st_app T0 rfl rfl rfl rfl rfl rfl rfl rfl rfl rcA rcA rfl rfl z (by omega) (fun _ _ => trivial) ?_)
    intro a46 c46 p46
    repeat (first | refine awp_region_lit rfl ?_ | ((first | (show AWL _ _ _ (⟨_, .move _, _, _, _, _⟩ :: _) _ _ _; refine awl_pw ?wtq (pv_move rfl rfl) rfl rfl ?_) | (show AWL _ _ _ (⟨_, .assign _, _, _, _, _⟩ :: _) _ _ _; refine awl_pw ?wtq (pv_assign rfl rfl) rfl rfl ?_) | (show AWL _ _ _ (⟨_, .binOp .add _ _ _ _, _, _, _, _⟩ :: _) _ _ _; refine awl_pw ?wtq (pv_add rfl rfl rfl (by first | assumption | exact wr64 (by omega))) rfl rfl ?_)); case wtq => exact wtA) | refine awl_nil ?_)
    refine rnd_n _ _ _ ?_ ⟨1, a41, a46, c41, c46, _, _, .inr ⟨rfl, rfl, rfl⟩, rfl, rfl, rfl⟩ ssA rcA
    omega
  · have d2 : decide (((1 : Nat) : Int) < 1) = false := rfl
    repeat (first | refine awp_seq ?_ | refine awp_region_lit rfl ?_ | refine awp_exit ?_ | refine awp_ret ?_ | refine awp_cond_f rfl (by first | rfl | assumption | exact dF (by omega)) ?_ | ((first | (show AWL _ _ _ (⟨_, .move _, _, _, _, _⟩ :: _) _ _ _; refine awl_pw ?wtq (pv_move rfl rfl) rfl rfl ?_) | (show AWL _ _ _ (⟨_, .assign _, _, _, _, _⟩ :: _) _ _ _; refine awl_pw ?wtq (pv_assign rfl rfl) rfl rfl ?_) | (show AWL _ _ _ (⟨_, .binOp .lss _ _ _ _, _, _, _, _⟩ :: _) _ _ _; refine awl_pw ?wtq (pv_lss rfl rfl rfl) rfl rfl ?_)); case wtq => exact wtA) | refine awl_nil ?_)
    refine bodyQ_ghost (ghost_freeze (d := 6) (v := .slice a 1 c) (E := 3) (sz := 1) (n := 1) (rows := [[intA ((x * uN s n).tdiv 720)]]) (fun q => [.sc (.int .i64 (([(x * uN s n).tdiv 720] : List Int).getD q 0))]) rcA rfl rfl (intRows_tree [(x * uN s n).tdiv 720])) ?_
    refine bodyQ_ghost (ghost_freeze (d := 7) (v := .slice a' 1 c') (E := 3) (sz := 1) (n := 1) (rows := [[intA ((x * uN s n).tmod 720)]]) (fun q => [.sc (.int .i64 (([(x * uN s n).tmod 720] : List Int).getD q 0))]) rcA rfl rfl (intRows_tree [(x * uN s n).tmod 720])) ?_
    exact body_p (.cons rfl (.cons rfl (.cons rfl .nil))) rfl
theorem list7_p (cp : Bool) (l : List Int) (hl : l.length ≤ 1000) : PCall Try.prog 41 [.t (intsT cp l)] (fun r => r = .t (intsT true l)) := by
  refine acall_of_awp T0 Try.func41 rfl rfl rfl ?_
  repeat (first | refine awp_seq ?_ | refine awp_region_lit rfl ?_ | ((first | (show AWL _ _ _ (⟨_, .assign _, _, _, _, _⟩ :: _) _ _ _; refine awl_pw ?wtq (pv_assign rfl rfl) rfl rfl ?_)); case wtq => exact wtA) | refine awl_nil ?_)
  refine awl_hw wtA (st_bsl T0 rfl rfl rfl rfl rfl rcA rfl rfl rfl rfl (by simp only [List.map_cons, List.map_nil, cellsA]; rfl) ?_)
  intro g
  repeat (first | ((first | (show AWL _ _ _ (⟨_, .move _, _, _, _, _⟩ :: _) _ _ _; refine awl_pw ?wtq (pv_move rfl rfl) rfl rfl ?_)); case wtq => exact wtA))
  refine awl_hw wtA (st_appt T0 rfl rfl rfl rfl rfl rfl rfl rfl rfl rcA (by intro k hk u hu; simp at hu; subst hu; rfl) (rfl : ([] : List (List AV)).length = 0) (by first | omega | (simp; omega)) (fun _ _ => trivial) rfl ?_)
  intro a c p
  repeat (first | refine awp_ret ?_ | ((first | (show AWL _ _ _ (⟨_, .assign _, _, _, _, _⟩ :: _) _ _ _; refine awl_pw ?wtq (pv_assign rfl rfl) rfl rfl ?_)); case wtq => exact wtA) | refine awl_nil ?_)
  simp only [List.nil_append, List.length_nil, Nat.zero_add]
  have hrows : ((List.range l.length).map fun k => List.map AV.ofTr [Tr.sc (.int .i64 (l.getD k 0))]) = l.map intRow := by
    refine List.ext_getElem (by simp) fun k h1 h2 => ?_
    simp at h1 h2
    simp [List.getD_eq_getElem?_getD, h1, AV.ofTr, intRow]
  rw [hrows]
  refine bodyQ_ghost (ghost_freeze (d := 2) (v := .slice a l.length c) (E := 3) (sz := 1) (n := l.length) (rows := l.map intRow) (fun q => [.sc (.int .i64 (l.getD q 0))]) rcA rfl (List.length_map _) (intRows_tree l)) ?_
  exact body_p (.cons rfl .nil) rfl
section
variable {g1 g2 : Nat} {c1 c2 : Bool} {x : Int} {s : SplD}
theorem kc_1 {ops : Array Oper} (h : regF Try.f12 1 = some ops) :
    AWP Try.prog Try.f12.ntmps none (.region 1 ops true) (cutQ (fun w h => ∃ g3, w = [(3, .v (ptrV g3)), (1, .v (ptrV g1)), (2, .v (ptrV g2))] ∧ h = [.cl g1 60 (comC c1 c2 x s), .cl g2 51 [intA 0, nilA, nilA, nilA, nilA, nilA], .cl g3 51 [intA 1, .t (intsT true [x]), nilA, nilA, nilA, nilA]]))
      [(1, .v (ptrV g1)), (2, .v (ptrV g2))] [.cl g1 60 (comC c1 c2 x s), .cl g2 51 [intA 0, nilA, nilA, nilA, nilA, nilA]] := by
  cases h
  refine awp_tree T0 [(0, 0), (1, 1), (2, 0), (3, 1), (4, 2), (5, 0), (6, 2), (7, 3)] (.op 0 0 (.op 1 1 (.op 2 0 (.op 3 1 (.fork 4 (.op 5 0 (.op 6 2 (.op 7 3 .stop))) 6 (.op 4 2 (.op 5 0 (.op 7 3 .stop)))))))) [.cl g1 _ _] rfl (by kernel_rfl) rcA ?_
  refine awt_po rfl (wt_none rfl) (pv_fa T0 rfl rfl rfl (by simp; rfl)) rfl rfl ?_
  refine awt_lo rfl (wt_none rfl) (lv_cl1 T0 rfl rfl rfl rcA raA) rfl rfl rfl ?_
  refine awt_po rfl (wt_none rfl) (pv_fa T0 rfl rfl rfl (by simp; rfl)) rfl rfl ?_
  refine awt_lo rfl (wt_none rfl) (lv_cl1 T0 rfl rfl rfl rcA raA) rfl rfl rfl ?_
  refine awt_fork ?_ ?_
  · skip
    refine awt_h (hm := []) rfl (wt_none rfl) rcA rfl (st_call T0 (list7_p c1 [x] (by simp)) rfl rfl rfl rfl (by first | exact callee_lit | exact callee_v | exact callee_fn | assumption) rcA raA rfl ?_)
    rintro _ rfl
    refine awt_n1 rfl (wt_none rfl) (pv_build T0 rfl rfl rfl scA (by first | ((repeat' (first | exact BParts.nil | apply BParts.cons | rfl)); all_goals fail) | fail) (by first | ((repeat' (first | exact FillA.nil | exact Sp.done | apply FillA.cons | apply Sp.put | apply Sp.skip | (simp only [cellsA]; rfl) | rfl)); all_goals fail) | fail)) rfl rfl rfl ?_
    refine awt_h (hm := []) rfl (wt_none rfl) rcA rfl (st_alloc T0 rfl rfl rfl rfl scA ?_)
    intro g3
    refine awt_s (md := fun _ => True) rfl (wt_none rfl) (st_store T0 rfl rfl rfl rfl rfl (by first | assumption | (simp only [cellsA]; rfl)) rfl rfl rfl rcA rcA trivial ?_)
    refine awe_end ?_
    exact cut_n ⟨_, rfl, rfl⟩ ssA rcA
  · skip
    refine awt_h (hm := []) rfl (wt_none rfl) rcA rfl (st_alloc T0 rfl rfl rfl rfl scA ?_)
    intro g3
    refine awt_h (hm := []) rfl (wt_none rfl) rcA rfl (st_call T0 (list7_p c1 [x] (by simp)) rfl rfl rfl rfl (by first | exact callee_lit | exact callee_v | exact callee_fn | assumption) rcA raA rfl ?_)
    rintro _ rfl
    refine awt_n1 rfl (wt_none rfl) (pv_build T0 rfl rfl rfl scA (by first | ((repeat' (first | exact BParts.nil | apply BParts.cons | rfl)); all_goals fail) | fail) (by first | ((repeat' (first | exact FillA.nil | exact Sp.done | apply FillA.cons | apply Sp.put | apply Sp.skip | (simp only [cellsA]; rfl) | rfl)); all_goals fail) | fail)) rfl rfl rfl ?_
    refine awt_s (md := fun _ => True) rfl (wt_none rfl) (st_store T0 rfl rfl rfl rfl rfl (by first | assumption | (simp only [cellsA]; rfl)) rfl rfl rfl rcA rcA trivial ?_)
    refine awe_end ?_
    exact cut_n ⟨_, rfl, rfl⟩ ssA rcA
end
theorem company_c (c1 c2 : Bool) (x : Int) (s : SplD) : PCall Try.prog 12 [comA c1 c2 x s] (fun r => r = comA true true x s) := by
  refine acall_of_awp T0 Try.func12 rfl rfl rfl ?_
  repeat (first | refine awp_seq ?_ | refine awp_region_lit rfl ?_)
  refine awl_hw wtA (st_box rfl rfl raA (by first | assumption | (simp only [cellsA]; rfl)) rfl rfl ?_)
  intro g1
  skip
  refine awl_hw wtA (st_alloc T0 rfl rfl rfl rfl scA ?_)
  intro g2
  repeat (first | refine awp_seq ?_ | refine awl_nil ?_)
  refine awp_cut _ (awp_weak ssA rcA (kc_1 (g1 := g1) (g2 := g2) (c1 := c1) (c2 := c2) (x := x) (s := s) rfl)) ?_
  rintro w h ⟨g3, rfl, rfl⟩
  repeat (first | refine awp_seq ?_ | refine awp_block ?_ | refine awp_region_lit rfl ?_ | ((first | (show AWL _ _ _ (⟨_, .assign _, _, _, _, _⟩ :: _) _ _ _; refine awl_pw ?wtq (pv_assign rfl rfl) rfl rfl ?_)); case wtq => exact wtA) | refine awl_nil ?_)
  refine awp_loop (fun m w h => m = 0 ∧ w = [(1, .v (ptrV g1)), (2, .v (ptrV g2)), (3, .v (ptrV g3)), (4, intA 0)] ∧ h = [.cl g1 60 (comC c1 c2 x s), .cl g2 51 [intA 0, nilA, nilA, nilA, nilA, nilA], .cl g3 51 [intA 1, .t (intsT true [x]), nilA, nilA, nilA, nilA]]) ?_ ⟨rfl, rfl, rfl⟩ ssA rcA
  rintro m w h ⟨rfl, rfl, rfl⟩
  repeat (first | refine awp_seq ?_ | refine awp_block ?_ | refine awp_region_lit rfl ?_ | refine awp_exit ?_ | with_reducible refine then_n ?_ | refine awp_cond_f rfl (by first | rfl | assumption | exact dF (by omega)) ?_ | ((first | (show AWL _ _ _ (⟨_, .move _, _, _, _, _⟩ :: _) _ _ _; refine awl_pw ?wtq (pv_move rfl rfl) rfl rfl ?_) | (show AWL _ _ _ (⟨_, .assign _, _, _, _, _⟩ :: _) _ _ _; refine awl_pw ?wtq (pv_assign rfl rfl) rfl rfl ?_) | (show AWL _ _ _ (⟨_, .load _ _, _, _, _, _⟩ :: _) _ _ _; refine awl_lw ?wtq (lv_cl1 T0 rfl rfl rfl rcA raA) rfl rfl rfl ?_) | (show AWL _ _ _ (⟨_, .fieldAddr _ _ _, _, _, _, _⟩ :: _) _ _ _; refine awl_pw ?wtq (pv_fa T0 rfl rfl rfl (by simp; rfl)) rfl rfl ?_) | (show AWL _ _ _ (⟨_, .binOp .lss _ _ _ _, _, _, _, _⟩ :: _) _ _ _; refine awl_pw ?wtq (pv_lss rfl rfl rfl) rfl rfl ?_) | (show AWL _ _ _ (⟨_, .call ⟨.builtin .len, _, _⟩, _, _, _, _⟩ :: _) _ _ _; refine awl_pw ?wtq (pv_len_v T0 rfl rfl rfl) rfl rfl ?_)); case wtq => exact wtA) | refine awl_nil ?_)
  refine awp_loop (fun m w h => m = 0 ∧ w = [(1, .v (ptrV g1)), (2, .v (ptrV g2)), (3, .v (ptrV g3)), (6, intA 0)] ∧ h = [.cl g1 60 (comC c1 c2 x s), .cl g2 51 [intA 0, nilA, nilA, nilA, nilA, nilA], .cl g3 51 [intA 1, .t (intsT true [x]), nilA, nilA, nilA, nilA]]) ?_ ⟨rfl, rfl, rfl⟩ ssA rcA
  rintro m w h ⟨rfl, rfl, rfl⟩
  repeat (first | refine awp_seq ?_ | refine awp_block ?_ | refine awp_region_lit rfl ?_ | refine awp_exit ?_ | with_reducible refine then_n ?_ | refine awp_cond_f rfl (by first | rfl | assumption | exact dF (by omega)) ?_ | ((first | (show AWL _ _ _ (⟨_, .move _, _, _, _, _⟩ :: _) _ _ _; refine awl_pw ?wtq (pv_move rfl rfl) rfl rfl ?_) | (show AWL _ _ _ (⟨_, .assign _, _, _, _, _⟩ :: _) _ _ _; refine awl_pw ?wtq (pv_assign rfl rfl) rfl rfl ?_) | (show AWL _ _ _ (⟨_, .load _ _, _, _, _, _⟩ :: _) _ _ _; refine awl_lw ?wtq (lv_cl1 T0 rfl rfl rfl rcA raA) rfl rfl rfl ?_) | (show AWL _ _ _ (⟨_, .fieldAddr _ _ _, _, _, _, _⟩ :: _) _ _ _; refine awl_pw ?wtq (pv_fa T0 rfl rfl rfl (by simp; rfl)) rfl rfl ?_) | (show AWL _ _ _ (⟨_, .binOp .lss _ _ _ _, _, _, _, _⟩ :: _) _ _ _; refine awl_pw ?wtq (pv_lss rfl rfl rfl) rfl rfl ?_) | (show AWL _ _ _ (⟨_, .call ⟨.builtin .len, _, _⟩, _, _, _, _⟩ :: _) _ _ _; refine awl_pw ?wtq (pv_len_v T0 rfl rfl rfl) rfl rfl ?_)); case wtq => exact wtA) | refine awl_nil ?_)
  refine awp_ghost (ghost_nilrow 128 3) ?_
  refine awp_loop (fun m w h => ∃ (k : Nat) (a : Option Addr) (c : Nat) (r1 : List (List AV)), (k = 0 ∧ r1 = [] ∨ k = 1 ∧ r1 = [splRow s]) ∧ m = 1 - k ∧ w = [(1, .v (ptrV g1)), (2, .v (ptrV g2)), (3, .v (ptrV g3)), (8, intA k)] ∧ h = [.cl g1 60 (comC c1 c2 x s), .cl g2 51 [intA 0, nilA, nilA, nilA, nilA, nilA], .cl g3 51 [intA 1, .t (intsT true [x]), nilA, nilA, .v (.slice a k c), nilA], .rw (.slice a k c) 128 3 r1]) ?_ ⟨0, none, 0, [], .inl ⟨rfl, rfl⟩, rfl, rfl, rfl⟩ ssA rcA
  rintro m w h ⟨k, a, c, r1, hk, rfl, rfl, rfl⟩
  rcases hk with ⟨rfl, rfl⟩ | ⟨rfl, rfl⟩
  · have d2 : decide (((0 : Nat) : Int) < 1) = true := rfl
    have z : ([] : List (List AV)).length = 0 := rfl
    repeat (first | refine awp_seq ?_ | refine awp_block ?_ | refine awp_region_lit rfl ?_ | refine awp_skip ?_ | with_reducible refine then_n ?_ | refine awp_cond_t rfl (by first | rfl | assumption | exact dT (by omega)) ?_ | ((first | (show AWL _ _ _ (⟨_, .move _, _, _, _, _⟩ :: _) _ _ _; refine awl_pw ?wtq (pv_move rfl rfl) rfl rfl ?_) | (show AWL _ _ _ (⟨_, .load _ _, _, _, _, _⟩ :: _) _ _ _; refine awl_lw ?wtq (lv_cl1 T0 rfl rfl rfl rcA raA) rfl rfl rfl ?_) | (show AWL _ _ _ (⟨_, .load _ _, _, _, _, _⟩ :: _) _ _ _; refine awl_lw ?wtq (lv_elt_ag T0 rfl rfl rfl rfl rcA) rfl rfl rfl ?_) | (show AWL _ _ _ (⟨_, .fieldAddr _ _ _, _, _, _, _⟩ :: _) _ _ _; refine awl_pw ?wtq (pv_fa T0 rfl rfl rfl (by simp; rfl)) rfl rfl ?_) | (show AWL _ _ _ (⟨_, .indexAddr _ _ _, _, _, _, _⟩ :: _) _ _ _; refine awl_pw ?wtq (pv_ix_t T0 rfl rfl rfl rfl (by omega) ixA) rfl rfl ?_) | (show AWL _ _ _ (⟨_, .binOp .lss _ _ _ _, _, _, _, _⟩ :: _) _ _ _; refine awl_pw ?wtq (pv_lss rfl rfl rfl) rfl rfl ?_) | (show AWL _ _ _ (⟨_, .call ⟨.builtin .len, _, _⟩, _, _, _, _⟩ :: _) _ _ _; refine awl_pw ?wtq (pv_len_t T0 rfl rfl rfl) rfl rfl ?_)); case wtq => exact wtA) | refine awl_nil ?_)
    refine awl_hw wtA (st_alloc T0 rfl rfl rfl rfl scA ?_)
    intro g9
    repeat (first | refine awp_region_lit rfl ?_ | ((first | (show AWL _ _ _ (⟨_, .load _ _, _, _, _, _⟩ :: _) _ _ _; refine awl_lw ?wtq (lv_cl1 T0 rfl rfl rfl rcA raA) rfl rfl rfl ?_) | (show AWL _ _ _ (⟨_, .fieldAddr _ _ _, _, _, _, _⟩ :: _) _ _ _; refine awl_pw ?wtq (pv_fa T0 rfl rfl rfl (by simp; rfl)) rfl rfl ?_) | (show AWL _ _ _ (⟨_, .build _ _, _, _, _, _⟩ :: _) _ _ _; refine awl_pw ?wtq (pv_build T0 rfl rfl rfl scA (by first | ((repeat' (first | exact BParts.nil | apply BParts.cons | rfl)); all_goals fail) | fail) (by first | ((repeat' (first | exact FillA.nil | exact Sp.done | apply FillA.cons | apply Sp.put | apply Sp.skip | (simp only [cellsA]; rfl) | rfl)); all_goals fail) | fail)) rfl rfl ?_)); case wtq => exact wtA) | (show AWL _ _ _ (⟨_, .store _ _ _, _, _, _, _⟩ :: _) _ _ _; refine awl_hw wtA (st_store T0 rfl rfl rfl rfl rfl (by first | assumption | (simp only [cellsA]; rfl)) rfl rfl rfl rcA rcA trivial ?_)) | refine awl_nil ?_)
    refine awl_hw wtA (st_bsl T0 rfl rfl rfl rfl rfl rcA rfl rfl rfl rfl (by simp only [List.map_cons, List.map_nil, cellsA]; rfl) ?_)
    intro g92
    skip
    refine awl_hw wtA (st_app T0 rfl rfl rfl rfl rfl rfl rfl rfl rfl rcA rcA rfl rfl z (by omega) (fun _ _ => trivial) ?_)
    intro a93 c93 p93
    repeat (first | refine awp_region_lit rfl ?_ | ((first | (show AWL _ _ _ (⟨_, .move _, _, _, _, _⟩ :: _) _ _ _; refine awl_pw ?wtq (pv_move rfl rfl) rfl rfl ?_) | (show AWL _ _ _ (⟨_, .assign _, _, _, _, _⟩ :: _) _ _ _; refine awl_pw ?wtq (pv_assign rfl rfl) rfl rfl ?_) | (show AWL _ _ _ (⟨_, .fieldAddr _ _ _, _, _, _, _⟩ :: _) _ _ _; refine awl_pw ?wtq (pv_fa T0 rfl rfl rfl (by simp; rfl)) rfl rfl ?_) | (show AWL _ _ _ (⟨_, .binOp .add _ _ _ _, _, _, _, _⟩ :: _) _ _ _; refine awl_pw ?wtq (pv_add rfl rfl rfl (by first | assumption | exact wr64 (by omega))) rfl rfl ?_)); case wtq => exact wtA) | (show AWL _ _ _ (⟨_, .store _ _ _, _, _, _, _⟩ :: _) _ _ _; refine awl_hw wtA (st_store T0 rfl rfl rfl rfl rfl (by first | assumption | (simp only [cellsA]; rfl)) rfl rfl rfl rcA rcA trivial ?_)) | refine awl_nil ?_)
    refine rnd_n _ _ _ ?_ ⟨1, a93, c93, _, .inr ⟨rfl, rfl⟩, rfl, rfl, rfl⟩ ssA rcA
    omega
  · have d2 : decide (((1 : Nat) : Int) < 1) = false := rfl
    refine awp_ghost (ghost_freeze_cell (g := g3) (j := 4) (v := .slice a 1 c) (E := 128) (sz := 3) (n := 1) (rows := [splRow s]) (fun _ => splL s) rcA rcA rfl rfl rfl (fun k hk => by
      obtain rfl : k = 0 := by omega
      rfl)) ?_
    repeat (first | refine awp_seq ?_ | refine awp_block ?_ | refine awp_region_lit rfl ?_ | refine awp_exit ?_ | with_reducible refine then_n ?_ | refine awp_cond_f rfl (by first | rfl | assumption | exact dF (by omega)) ?_ | ((first | (show AWL _ _ _ (⟨_, .move _, _, _, _, _⟩ :: _) _ _ _; refine awl_pw ?wtq (pv_move rfl rfl) rfl rfl ?_) | (show AWL _ _ _ (⟨_, .assign _, _, _, _, _⟩ :: _) _ _ _; refine awl_pw ?wtq (pv_assign rfl rfl) rfl rfl ?_) | (show AWL _ _ _ (⟨_, .load _ _, _, _, _, _⟩ :: _) _ _ _; refine awl_lw ?wtq (lv_cl1 T0 rfl rfl rfl rcA raA) rfl rfl rfl ?_) | (show AWL _ _ _ (⟨_, .fieldAddr _ _ _, _, _, _, _⟩ :: _) _ _ _; refine awl_pw ?wtq (pv_fa T0 rfl rfl rfl (by simp; rfl)) rfl rfl ?_) | (show AWL _ _ _ (⟨_, .binOp .lss _ _ _ _, _, _, _, _⟩ :: _) _ _ _; refine awl_pw ?wtq (pv_lss rfl rfl rfl) rfl rfl ?_) | (show AWL _ _ _ (⟨_, .call ⟨.builtin .len, _, _⟩, _, _, _, _⟩ :: _) _ _ _; refine awl_pw ?wtq (pv_len_t T0 rfl rfl rfl) rfl rfl ?_)); case wtq => exact wtA) | refine awl_nil ?_)
    refine awp_loop (fun m w h => m = 0 ∧ w = [(1, .v (ptrV g1)), (2, .v (ptrV g2)), (3, .v (ptrV g3)), (10, intA 0)] ∧ h = [.cl g1 60 (comC c1 c2 x s), .cl g2 51 [intA 0, nilA, nilA, nilA, nilA, nilA], .cl g3 51 (comC true true x s)]) ?_ ⟨rfl, rfl, rfl⟩ ssA rcA
    rintro m w h ⟨rfl, rfl, rfl⟩
    repeat (first | refine awp_seq ?_ | refine awp_region_lit rfl ?_ | refine awp_exit ?_ | refine awp_ret ?_ | with_reducible refine then_n ?_ | refine awp_cond_f rfl (by first | rfl | assumption | exact dF (by omega)) ?_ | ((first | (show AWL _ _ _ (⟨_, .move _, _, _, _, _⟩ :: _) _ _ _; refine awl_pw ?wtq (pv_move rfl rfl) rfl rfl ?_) | (show AWL _ _ _ (⟨_, .load _ _, _, _, _, _⟩ :: _) _ _ _; refine awl_lw ?wtq (lv_cl1 T0 rfl rfl rfl rcA raA) rfl rfl rfl ?_) | (show AWL _ _ _ (⟨_, .load _ _, _, _, _, _⟩ :: _) _ _ _; refine awl_lw ?wtq (lv_cla T0 rfl rfl rfl rcA rfl) rfl rfl rfl ?_) | (show AWL _ _ _ (⟨_, .fieldAddr _ _ _, _, _, _, _⟩ :: _) _ _ _; refine awl_pw ?wtq (pv_fa T0 rfl rfl rfl (by simp; rfl)) rfl rfl ?_) | (show AWL _ _ _ (⟨_, .binOp .lss _ _ _ _, _, _, _, _⟩ :: _) _ _ _; refine awl_pw ?wtq (pv_lss rfl rfl rfl) rfl rfl ?_) | (show AWL _ _ _ (⟨_, .call ⟨.builtin .len, _, _⟩, _, _, _, _⟩ :: _) _ _ _; refine awl_pw ?wtq (pv_len_v T0 rfl rfl rfl) rfl rfl ?_)); case wtq => exact wtA) | (show AWL _ _ _ (⟨_, .store _ _ _, _, _, _, _⟩ :: _) _ _ _; refine awl_hw wtA (st_store T0 rfl rfl rfl rfl rfl (by first | assumption | (simp only [cellsA]; rfl)) rfl rfl rfl rcA rcA trivial ?_)) | refine awl_nil ?_)
    exact body_p (res_cell rfl rfl rcA rfl rfl rfl .nil) rfl
end Go.Proofs.Ytlpknbneilgjkaa.K
