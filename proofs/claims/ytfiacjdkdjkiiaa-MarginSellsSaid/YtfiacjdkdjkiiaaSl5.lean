/- Most, Fewest, and the error of a sale: their walks. -/
import Derived.Test.YtfiacjdkdjkiiaaSl4
namespace Go.Proofs.Ytfiacjdkdjkiiaa
open Go Go.RowKit Go.Tl
set_option linter.unusedVariables false
set_option linter.unusedSimpArgs false
set_option maxRecDepth 100000
set_option maxHeartbeats 4000000
attribute [local irreducible] AWP AWL AOp PV LV AWT AWE
theorem mostStep_len (best : List Int) (x p : Int) : (mostStep best x p).length = best.length + x.toNat := by simp [mostStep]
theorem mostStep_at {best : List Int} {x p : Int} {n : Nat} (h : n < best.length + x.toNat) : (mostStep best x p).getD n 0 = moK best p n (min n x.toNat + 1) := by
  simp [mostStep, List.getD_eq_getElem?_getD, h]
theorem mostL_len {sh p : List Int} (hsh : ∀ x ∈ sh, 0 ≤ x ∧ x ≤ 100) : ∀ k, k ≤ sh.length → (mostL sh p k).length ≤ 100 * k + 1
  | 0, _ => by simp [mostL]
  | k + 1, hk => by
    have := mostL_len (p := p) hsh k (by omega)
    have := hsh _ (getD_mem (d := (0 : Int)) (show k < sh.length by omega))
    show (mostStep _ _ _).length ≤ _
    rw [mostStep_len]; omega
theorem moK_bd {best : List Int} {p B : Int} {n : Nat} (hb : ∀ x ∈ best, 0 ≤ x ∧ x ≤ B) (hp : 0 ≤ p ∧ p ≤ 1000) (hB : 0 ≤ B) : ∀ j : Nat, j ≤ 101 → 0 ≤ moK best p n j ∧ moK best p n j ≤ B + 100000
  | 0, _ => ⟨Int.le_refl _, by show (0 : Int) ≤ _; omega⟩
  | j + 1, hj => by
    have ih := moK_bd (n := n) hb hp hB j (by omega)
    simp only [moK]
    split
    · rename_i h
      have h1 := hb _ (getD_mem (d := (0 : Int)) h)
      have h2 : 0 ≤ (j : Int) * p := Int.mul_nonneg (by omega) hp.1
      have h3 : (j : Int) * p ≤ 100 * 1000 := Int.le_trans (Int.mul_le_mul_of_nonneg_right (by omega : (j : Int) ≤ 100) hp.1) (Int.mul_le_mul_of_nonneg_left hp.2 (by omega))
      omega
    · exact ih
theorem mostL_bd {sh p : List Int} (hsh : ∀ x ∈ sh, 0 ≤ x ∧ x ≤ 100) (hp : ∀ x ∈ p, 0 ≤ x ∧ x ≤ 1000) (hl : p.length = sh.length) : ∀ k : Nat, k ≤ sh.length → ∀ x ∈ mostL sh p k, 0 ≤ x ∧ x ≤ 100000 * k
  | 0, _, x, hx => by simp [mostL] at hx; omega
  | k + 1, hk, x, hx => by
    have ih := mostL_bd hsh hp hl k (by omega)
    have h1 := hsh _ (getD_mem (d := (0 : Int)) (show k < sh.length by omega))
    have h2 := hp _ (getD_mem (d := (0 : Int)) (show k < p.length by omega))
    simp only [mostL, mostStep, List.mem_map, List.mem_range] at hx
    obtain ⟨n, hn, rfl⟩ := hx
    have := moK_bd (n := n) ih h2 (by omega) (min n (sh.getD k 0).toNat + 1) (by omega)
    omega
theorem most_p (cp cp' : Bool) (mo ma : Int) (sh p : List Int) (hl : p.length = sh.length) (h4 : sh.length ≤ 4) (hsh : ∀ x ∈ sh, 0 ≤ x ∧ x ≤ 100) (hp : ∀ x ∈ p, 0 ≤ x ∧ x ≤ 1000) :
    PCall Try.prog 83 [.ag [intA mo, intA ma, .t (intsT cp sh)], .t (intsT cp' p)] (fun r => r = .t (intsT true (mostL sh p sh.length))) := by
  refine acall_of_awp T0 Try.func83 rfl rfl rfl ?_
  repeat (first | refine awp_seq ?_ | refine awp_region_lit rfl ?_)
  refine awl_hw (by first | exact wt_none rfl | exact wt_some' rfl rfl rfl rfl (by first | rfl | assumption | exact dT (by omega) | exact dF (by omega))) (st_box rfl rfl rfl (by simp only [cellsA]; rfl) rfl rfl ?_)
  intro g2
  repeat (first | refine awp_seq ?_ | refine awp_region_lit rfl ?_ | ((first | (show AWL _ _ _ (⟨_, .assign _, _, _, _, _⟩ :: _) _ _ _; refine awl_pw ?w (pv_assign rfl rfl) rfl rfl ?_)); case w => first | exact wt_none rfl | exact wt_some' rfl rfl rfl rfl (by first | rfl | assumption | exact dT (by omega) | exact dF (by omega))) | refine awl_nil ?_)
  refine awl_hw (by first | exact wt_none rfl | exact wt_some' rfl rfl rfl rfl (by first | rfl | assumption | exact dT (by omega) | exact dF (by omega))) (st_bsl T0 rfl rfl rfl rfl rfl (by solve | repeat' constructor) rfl rfl rfl rfl (by simp only [List.map_cons, List.map_nil, cellsA]; rfl) ?_)
  intro g11
  repeat (first | refine awp_seq ?_ | refine awp_block ?_ | refine awp_region_lit rfl ?_ | refine then_n ?_ | ((first | (show AWL _ _ _ (⟨_, .assign _, _, _, _, _⟩ :: _) _ _ _; refine awl_pw ?w (pv_assign rfl rfl) rfl rfl ?_)); case w => first | exact wt_none rfl | exact wt_some' rfl rfl rfl rfl (by first | rfl | assumption | exact dT (by omega) | exact dF (by omega))) | refine awl_nil ?_)
  refine awp_ghost (ghost_freeze (E := 3) (sz := 1) (n := (mostL sh p 0).length) (rows := [[intA 0]]) (d := 5) (fun q => [.sc (.int .i64 ((mostL sh p 0).getD q 0))]) (by solve | repeat' constructor) rfl rfl (intRows_tree (mostL sh p 0))) ?_
  refine awp_loop (fun m s h => ∃ (k : Nat) , k ≤ sh.length ∧ m = sh.length - k ∧ s = [(1, .t (intsT cp' p)), (2, .v (ptrV g2)), (5, .t (intsT true (mostL sh p k))), (6, intA k)] ∧ h = [.cl g2 80 [intA mo, intA ma, .t (intsT cp sh)]]) ?_ ⟨0, Nat.zero_le _, rfl, rfl, rfl⟩ (by first | ((repeat' (first | exact True.intro | refine ⟨rfl, ?_⟩)); all_goals fail) | fail) (by solve | repeat' constructor)
  rintro m s h ⟨k, hk, rfl, rfl, rfl⟩
  by_cases hkt : k < sh.length
  case neg =>
    obtain rfl : k = sh.length := by omega
    repeat (first | refine awp_seq ?_ | refine awp_region_lit rfl ?_ | refine awp_exit ?_ | refine awp_ret ?_ | refine then_n ?_ | refine awp_cond_f rfl (by first | rfl | assumption | exact dF (by omega)) ?_ | ((first | (show AWL _ _ _ (⟨_, .move _, _, _, _, _⟩ :: _) _ _ _; refine awl_pw ?w (pv_move rfl rfl) rfl rfl ?_) | (show AWL _ _ _ (⟨_, .assign _, _, _, _, _⟩ :: _) _ _ _; refine awl_pw ?w (pv_assign rfl rfl) rfl rfl ?_) | (show AWL _ _ _ (⟨_, .load _ _, _, _, _, _⟩ :: _) _ _ _; refine awl_lw ?w (lv_cl1 T0 rfl rfl rfl (by solve | repeat' constructor) (by first | rfl | assumption)) rfl rfl rfl ?_) | (show AWL _ _ _ (⟨_, .fieldAddr _ _ _, _, _, _, _⟩ :: _) _ _ _; refine awl_pw ?w (pv_fa T0 rfl rfl rfl (by simp; rfl)) rfl rfl ?_) | (show AWL _ _ _ (⟨_, .binOp .lss _ _ _ _, _, _, _, _⟩ :: _) _ _ _; refine awl_pw ?w (pv_lss rfl rfl rfl) rfl rfl ?_) | (show AWL _ _ _ (⟨_, .call ⟨.builtin .len, _, _⟩, _, _, _, _⟩ :: _) _ _ _; refine awl_pw ?w (pv_len_t T0 rfl rfl rfl) rfl rfl ?_)); case w => first | exact wt_none rfl | exact wt_some' rfl rfl rfl rfl (by first | rfl | assumption | exact dT (by omega) | exact dF (by omega))) | refine awl_nil ?_)
    exact body_p (.cons rfl .nil) rfl
  have hlen := mostL_len (p := p) hsh k hk
  have hbd := mostL_bd hsh hp hl k hk
  have hshk := hsh _ (getD_mem (d := (0 : Int)) hkt)
  have hpk := hp _ (getD_mem (d := (0 : Int)) (show k < p.length by omega))
  have hnext : mostL sh p (k + 1) = mostStep (mostL sh p k) (sh.getD k 0) (p.getD k 0) := rfl
  have hmb : ∀ n j : Nat, j ≤ 101 → 0 ≤ moK (mostL sh p k) (p.getD k 0) n j ∧ moK (mostL sh p k) (p.getD k 0) n j ≤ 500000 := fun n j hj => by
    have := moK_bd (n := n) hbd hpk (by omega) j hj
    omega
  repeat (first | refine awp_seq ?_ | refine awp_block ?_ | refine awp_region_lit rfl ?_ | refine awp_skip ?_ | refine then_n ?_ | refine awp_cond_t rfl (by first | rfl | assumption | exact dT (by omega)) ?_ | ((first | (show AWL _ _ _ (⟨_, .move _, _, _, _, _⟩ :: _) _ _ _; refine awl_pw ?w (pv_move rfl rfl) rfl rfl ?_) | (show AWL _ _ _ (⟨_, .assign _, _, _, _, _⟩ :: _) _ _ _; refine awl_pw ?w (pv_assign rfl rfl) rfl rfl ?_) | (show AWL _ _ _ (⟨_, .load _ _, _, _, _, _⟩ :: _) _ _ _; refine awl_lw ?w (lv_cl1 T0 rfl rfl rfl (by solve | repeat' constructor) (by first | rfl | assumption)) rfl rfl rfl ?_) | (show AWL _ _ _ (⟨_, .fieldAddr _ _ _, _, _, _, _⟩ :: _) _ _ _; refine awl_pw ?w (pv_fa T0 rfl rfl rfl (by simp; rfl)) rfl rfl ?_) | (show AWL _ _ _ (⟨_, .binOp .lss _ _ _ _, _, _, _, _⟩ :: _) _ _ _; refine awl_pw ?w (pv_lss rfl rfl rfl) rfl rfl ?_) | (show AWL _ _ _ (⟨_, .call ⟨.builtin .len, _, _⟩, _, _, _, _⟩ :: _) _ _ _; refine awl_pw ?w (pv_len_t T0 rfl rfl rfl) rfl rfl ?_)); case w => first | exact wt_none rfl | exact wt_some' rfl rfl rfl rfl (by first | rfl | assumption | exact dT (by omega) | exact dF (by omega))) | refine awl_nil ?_)
  refine awp_ghost (ghost_nilrow 3 1) ?_
  refine awp_loop (fun m s h => ∃ (n : Nat) (a : Option Addr) (c : Nat) (rows : List (List AV)), n ≤ (mostL sh p (k + 1)).length ∧ m = (mostL sh p (k + 1)).length - n ∧ rows.length = n ∧ rows = ((mostL sh p (k + 1)).take n).map intRow ∧
    s = [(1, .t (intsT cp' p)), (2, .v (ptrV g2)), (5, .t (intsT true (mostL sh p k))), (6, intA k), (7, .v (.slice a n c)), (8, intA n)] ∧ h = [.cl g2 80 [intA mo, intA ma, .t (intsT cp sh)], .rw (.slice a n c) 3 1 rows]) ?_ ⟨0, _, _, _, Nat.zero_le _, rfl, rfl, rfl, rfl, rfl⟩ (by first | ((repeat' (first | exact True.intro | refine ⟨rfl, ?_⟩)); all_goals fail) | fail) (by solve | repeat' constructor)
  rintro m s h ⟨n, a, c, rows, hn, rfl, hrl, hrows, rfl, rfl⟩
  rw [hnext, mostStep_len] at hn
  by_cases hnt : n < (mostL sh p k).length + (sh.getD k 0).toNat
  case neg =>
    obtain rfl : n = (mostL sh p (k + 1)).length := by rw [hnext, mostStep_len]; omega
    rw [List.take_length] at hrows
    subst hrows
    have d1 : decide (((mostL sh p (k + 1)).length : Int) < ((mostL sh p k).length : Int) + sh.getD k 0) = false := decide_eq_false (by rw [hnext, mostStep_len]; omega)
    refine awp_ghost (ghost_freeze (E := 3) (sz := 1) (n := (mostL sh p (k + 1)).length) (rows := (mostL sh p (k + 1)).map intRow) (d := 7) (fun q => [.sc (.int .i64 ((mostL sh p (k + 1)).getD q 0))]) (by solve | repeat' constructor) rfl (by simp) (intRows_tree _)) ?_
    repeat (first | refine awp_seq ?_ | refine awp_region_lit rfl ?_ | refine awp_exit ?_ | refine then_n ?_ | refine awp_cond_f rfl (by first | rfl | assumption | exact dF (by omega)) ?_ | ((first | (show AWL _ _ _ (⟨_, .move _, _, _, _, _⟩ :: _) _ _ _; refine awl_pw ?w (pv_move rfl rfl) rfl rfl ?_) | (show AWL _ _ _ (⟨_, .assign _, _, _, _, _⟩ :: _) _ _ _; refine awl_pw ?w (pv_assign rfl rfl) rfl rfl ?_) | (show AWL _ _ _ (⟨_, .load _ _, _, _, _, _⟩ :: _) _ _ _; refine awl_lw ?w (lv_cl1 T0 rfl rfl rfl (by solve | repeat' constructor) (by first | rfl | assumption)) rfl rfl rfl ?_) | (show AWL _ _ _ (⟨_, .load _ _, _, _, _, _⟩ :: _) _ _ _; refine awl_lw ?w (lv_elt_sc T0 rfl rfl rfl rfl) rfl rfl rfl ?_) | (show AWL _ _ _ (⟨_, .fieldAddr _ _ _, _, _, _, _⟩ :: _) _ _ _; refine awl_pw ?w (pv_fa T0 rfl rfl rfl (by simp; rfl)) rfl rfl ?_) | (show AWL _ _ _ (⟨_, .indexAddr _ _ _, _, _, _, _⟩ :: _) _ _ _; refine awl_pw ?w (pv_ix_t T0 rfl rfl rfl rfl (by omega) (by first | exact Int.toNat_natCast _ | rfl)) rfl rfl ?_) | (show AWL _ _ _ (⟨_, .binOp .add _ _ _ _, _, _, _, _⟩ :: _) _ _ _; refine awl_pw ?w (pv_add rfl rfl rfl (by first | assumption | exact wr64 (by omega))) rfl rfl ?_) | (show AWL _ _ _ (⟨_, .binOp .lss _ _ _ _, _, _, _, _⟩ :: _) _ _ _; refine awl_pw ?w (pv_lss rfl rfl rfl) rfl rfl ?_) | (show AWL _ _ _ (⟨_, .call ⟨.builtin .len, _, _⟩, _, _, _, _⟩ :: _) _ _ _; refine awl_pw ?w (pv_len_t T0 rfl rfl rfl) rfl rfl ?_)); case w => first | exact wt_none rfl | exact wt_some' rfl rfl rfl rfl (by first | rfl | assumption | exact dT (by omega) | exact dF (by omega))) | refine awl_nil ?_)
    refine rnd_n _ _ _ ?_ ⟨k + 1, hkt, rfl, rfl, rfl⟩ (by first | ((repeat' (first | exact True.intro | refine ⟨rfl, ?_⟩)); all_goals fail) | fail) (by solve | repeat' constructor)
    omega
  have d1 : decide ((n : Int) < ((mostL sh p k).length : Int) + sh.getD k 0) = true := decide_eq_true (by omega)
  repeat (first | refine awp_seq ?_ | refine awp_block ?_ | refine awp_region_lit rfl ?_ | refine awp_skip ?_ | refine then_n ?_ | refine awp_cond_t rfl (by first | rfl | assumption | exact dT (by omega)) ?_ | ((first | (show AWL _ _ _ (⟨_, .move _, _, _, _, _⟩ :: _) _ _ _; refine awl_pw ?w (pv_move rfl rfl) rfl rfl ?_) | (show AWL _ _ _ (⟨_, .assign _, _, _, _, _⟩ :: _) _ _ _; refine awl_pw ?w (pv_assign rfl rfl) rfl rfl ?_) | (show AWL _ _ _ (⟨_, .load _ _, _, _, _, _⟩ :: _) _ _ _; refine awl_lw ?w (lv_cl1 T0 rfl rfl rfl (by solve | repeat' constructor) (by first | rfl | assumption)) rfl rfl rfl ?_) | (show AWL _ _ _ (⟨_, .load _ _, _, _, _, _⟩ :: _) _ _ _; refine awl_lw ?w (lv_elt_sc T0 rfl rfl rfl rfl) rfl rfl rfl ?_) | (show AWL _ _ _ (⟨_, .fieldAddr _ _ _, _, _, _, _⟩ :: _) _ _ _; refine awl_pw ?w (pv_fa T0 rfl rfl rfl (by simp; rfl)) rfl rfl ?_) | (show AWL _ _ _ (⟨_, .indexAddr _ _ _, _, _, _, _⟩ :: _) _ _ _; refine awl_pw ?w (pv_ix_t T0 rfl rfl rfl rfl (by omega) (by first | exact Int.toNat_natCast _ | rfl)) rfl rfl ?_) | (show AWL _ _ _ (⟨_, .binOp .add _ _ _ _, _, _, _, _⟩ :: _) _ _ _; refine awl_pw ?w (pv_add rfl rfl rfl (by first | assumption | exact wr64 (by omega))) rfl rfl ?_) | (show AWL _ _ _ (⟨_, .binOp .lss _ _ _ _, _, _, _, _⟩ :: _) _ _ _; refine awl_pw ?w (pv_lss rfl rfl rfl) rfl rfl ?_) | (show AWL _ _ _ (⟨_, .call ⟨.builtin .len, _, _⟩, _, _, _, _⟩ :: _) _ _ _; refine awl_pw ?w (pv_len_t T0 rfl rfl rfl) rfl rfl ?_)); case w => first | exact wt_none rfl | exact wt_some' rfl rfl rfl rfl (by first | rfl | assumption | exact dT (by omega) | exact dF (by omega))) | refine awl_nil ?_)
  have hval : (mostL sh p (k + 1)).getD n 0 = moK (mostL sh p k) (p.getD k 0) n (min n (sh.getD k 0).toNat + 1) := by rw [hnext, mostStep_at hnt]
  refine awp_loop (fun m s h => ∃ (j : Nat), j ≤ min n (sh.getD k 0).toNat + 1 ∧ m = min n (sh.getD k 0).toNat + 1 - j ∧
    s = [(1, .t (intsT cp' p)), (2, .v (ptrV g2)), (5, .t (intsT true (mostL sh p k))), (6, intA k), (7, .v (.slice a n c)), (8, intA n), (9, intA (moK (mostL sh p k) (p.getD k 0) n j)), (10, intA j)] ∧ h = [.cl g2 80 [intA mo, intA ma, .t (intsT cp sh)], .rw (.slice a n c) 3 1 rows]) ?_ ⟨0, Nat.zero_le _, rfl, rfl, rfl⟩ (by first | ((repeat' (first | exact True.intro | refine ⟨rfl, ?_⟩)); all_goals fail) | fail) (by solve | repeat' constructor)
  rintro m s h ⟨j, hj, rfl, rfl, rfl⟩
  by_cases hjn : j ≤ n
  case neg =>
    have d2 : decide ((j : Int) ≤ (n : Int)) = false := decide_eq_false (by omega)
    obtain rfl : j = min n (sh.getD k 0).toNat + 1 := by omega
    repeat (first | refine awp_seq ?_ | refine awp_region_lit rfl ?_ | refine awp_exit ?_ | refine then_n ?_ | refine awp_cond_f rfl (by first | rfl | assumption | exact dF (by omega)) ?_ | ((first | (show AWL _ _ _ (⟨_, .move _, _, _, _, _⟩ :: _) _ _ _; refine awl_pw ?w (pv_move rfl rfl) rfl rfl ?_) | (show AWL _ _ _ (⟨_, .fieldAddr _ _ _, _, _, _, _⟩ :: _) _ _ _; refine awl_pw ?w (pv_fa T0 rfl rfl rfl (by simp; rfl)) rfl rfl ?_) | (show AWL _ _ _ (⟨_, .binOp .leq _ _ _ _, _, _, _, _⟩ :: _) _ _ _; refine awl_pw ?w (pv_leq rfl rfl rfl) rfl rfl ?_) | (show AWL _ _ _ (⟨_, .pick _ _ _, _, _, _, _⟩ :: _) _ _ _; refine awl_pw ?w (pv_pick_f rfl rfl (by first | rfl | assumption | exact dT (by omega) | exact dF (by omega)) rfl) rfl rfl ?_)); case w => first | exact wt_none rfl | exact wt_some' rfl rfl rfl rfl (by first | rfl | assumption | exact dT (by omega) | exact dF (by omega))) | refine awl_sk (wf_some rfl rfl rfl rfl (by first | rfl | assumption | exact dT (by omega) | exact dF (by omega))) rfl rfl ?_ | refine awl_nil ?_)
    rw [← hval]
    refine awl_hw (by first | exact wt_none rfl | exact wt_some' rfl rfl rfl rfl (by first | rfl | assumption | exact dT (by omega) | exact dF (by omega))) (st_bsl T0 rfl rfl rfl rfl rfl (by solve | repeat' constructor) rfl rfl rfl rfl (by simp only [List.map_cons, List.map_nil, cellsA]; rfl) ?_)
    intro g68
    skip
    refine awl_hw (by first | exact wt_none rfl | exact wt_some' rfl rfl rfl rfl (by first | rfl | assumption | exact dT (by omega) | exact dF (by omega))) (st_app T0 rfl rfl rfl rfl rfl rfl rfl rfl rfl (by solve | repeat' constructor) (by solve | repeat' constructor) rfl rfl hrl (by omega) (fun _ _ => trivial) ?_)
    intro a69 c69 p69
    repeat (first | refine awp_region_lit rfl ?_ | ((first | (show AWL _ _ _ (⟨_, .move _, _, _, _, _⟩ :: _) _ _ _; refine awl_pw ?w (pv_move rfl rfl) rfl rfl ?_) | (show AWL _ _ _ (⟨_, .assign _, _, _, _, _⟩ :: _) _ _ _; refine awl_pw ?w (pv_assign rfl rfl) rfl rfl ?_) | (show AWL _ _ _ (⟨_, .binOp .add _ _ _ _, _, _, _, _⟩ :: _) _ _ _; refine awl_pw ?w (pv_add rfl rfl rfl (by first | assumption | exact wr64 (by omega))) rfl rfl ?_)); case w => first | exact wt_none rfl | exact wt_some' rfl rfl rfl rfl (by first | rfl | assumption | exact dT (by omega) | exact dF (by omega))) | refine awl_nil ?_)
    have hnl : n < (mostL sh p (k + 1)).length := by rw [hnext, mostStep_len]; exact hnt
    refine rnd_n _ _ _ ?_ ⟨n + 1, _, _, _, hnl, rfl, ?_, ?_, rfl, rfl⟩ (by first | ((repeat' (first | exact True.intro | refine ⟨rfl, ?_⟩)); all_goals fail) | fail) (by solve | repeat' constructor)
    · omega
    · simp; omega
    · rw [hrows]; exact (rows_step (d := (0 : Int)) intRow hnl).symm
  have d2 : decide ((j : Int) ≤ (n : Int)) = true := decide_eq_true (by omega)
  by_cases hjs : (j : Int) ≤ sh.getD k 0
  case neg =>
    have d3 : decide ((j : Int) ≤ sh.getD k 0) = false := decide_eq_false hjs
    obtain rfl : j = min n (sh.getD k 0).toNat + 1 := by omega
    repeat (first | refine awp_seq ?_ | refine awp_region_lit rfl ?_ | refine awp_exit ?_ | refine then_n ?_ | refine awp_cond_f rfl (by first | rfl | assumption | exact dF (by omega)) ?_ | ((first | (show AWL _ _ _ (⟨_, .move _, _, _, _, _⟩ :: _) _ _ _; refine awl_pw ?w (pv_move rfl rfl) rfl rfl ?_) | (show AWL _ _ _ (⟨_, .load _ _, _, _, _, _⟩ :: _) _ _ _; refine awl_lw ?w (lv_cl1 T0 rfl rfl rfl (by solve | repeat' constructor) (by first | rfl | assumption)) rfl rfl rfl ?_) | (show AWL _ _ _ (⟨_, .load _ _, _, _, _, _⟩ :: _) _ _ _; refine awl_lw ?w (lv_elt_sc T0 rfl rfl rfl rfl) rfl rfl rfl ?_) | (show AWL _ _ _ (⟨_, .fieldAddr _ _ _, _, _, _, _⟩ :: _) _ _ _; refine awl_pw ?w (pv_fa T0 rfl rfl rfl (by simp; rfl)) rfl rfl ?_) | (show AWL _ _ _ (⟨_, .indexAddr _ _ _, _, _, _, _⟩ :: _) _ _ _; refine awl_pw ?w (pv_ix_t T0 rfl rfl rfl rfl (by omega) (by first | exact Int.toNat_natCast _ | rfl)) rfl rfl ?_) | (show AWL _ _ _ (⟨_, .binOp .leq _ _ _ _, _, _, _, _⟩ :: _) _ _ _; refine awl_pw ?w (pv_leq rfl rfl rfl) rfl rfl ?_) | (show AWL _ _ _ (⟨_, .pick _ _ _, _, _, _, _⟩ :: _) _ _ _; refine awl_pw ?w (pv_pick_t rfl rfl (by first | rfl | assumption | exact dT (by omega) | exact dF (by omega)) rfl) rfl rfl ?_)); case w => first | exact wt_none rfl | exact wt_some' rfl rfl rfl rfl (by first | rfl | assumption | exact dT (by omega) | exact dF (by omega))) | refine awl_nil ?_)
    rw [← hval]
    refine awl_hw (by first | exact wt_none rfl | exact wt_some' rfl rfl rfl rfl (by first | rfl | assumption | exact dT (by omega) | exact dF (by omega))) (st_bsl T0 rfl rfl rfl rfl rfl (by solve | repeat' constructor) rfl rfl rfl rfl (by simp only [List.map_cons, List.map_nil, cellsA]; rfl) ?_)
    intro g68
    skip
    refine awl_hw (by first | exact wt_none rfl | exact wt_some' rfl rfl rfl rfl (by first | rfl | assumption | exact dT (by omega) | exact dF (by omega))) (st_app T0 rfl rfl rfl rfl rfl rfl rfl rfl rfl (by solve | repeat' constructor) (by solve | repeat' constructor) rfl rfl hrl (by omega) (fun _ _ => trivial) ?_)
    intro a69 c69 p69
    repeat (first | refine awp_region_lit rfl ?_ | ((first | (show AWL _ _ _ (⟨_, .move _, _, _, _, _⟩ :: _) _ _ _; refine awl_pw ?w (pv_move rfl rfl) rfl rfl ?_) | (show AWL _ _ _ (⟨_, .assign _, _, _, _, _⟩ :: _) _ _ _; refine awl_pw ?w (pv_assign rfl rfl) rfl rfl ?_) | (show AWL _ _ _ (⟨_, .binOp .add _ _ _ _, _, _, _, _⟩ :: _) _ _ _; refine awl_pw ?w (pv_add rfl rfl rfl (by first | assumption | exact wr64 (by omega))) rfl rfl ?_)); case w => first | exact wt_none rfl | exact wt_some' rfl rfl rfl rfl (by first | rfl | assumption | exact dT (by omega) | exact dF (by omega))) | refine awl_nil ?_)
    have hnl : n < (mostL sh p (k + 1)).length := by rw [hnext, mostStep_len]; exact hnt
    refine rnd_n _ _ _ ?_ ⟨n + 1, _, _, _, hnl, rfl, ?_, ?_, rfl, rfl⟩ (by first | ((repeat' (first | exact True.intro | refine ⟨rfl, ?_⟩)); all_goals fail) | fail) (by solve | repeat' constructor)
    · omega
    · simp; omega
    · rw [hrows]; exact (rows_step (d := (0 : Int)) intRow hnl).symm
  have d3 : decide ((j : Int) ≤ sh.getD k 0) = true := decide_eq_true hjs
  have hm1 := hmb n j (by omega)
  have hwr : IntKind.i64.wrap ((n : Int) - (j : Int)) = ((n - j : Nat) : Int) := by rw [wr64 (by omega)]; omega
  by_cases hjl : n - j < (mostL sh p k).length
  case neg =>
    have d4 : decide (((n - j : Nat) : Int) < ((mostL sh p k).length : Int)) = false := decide_eq_false (by omega)
    have hmo : moK (mostL sh p k) (p.getD k 0) n (j + 1) = moK (mostL sh p k) (p.getD k 0) n j := by simp only [moK]; rw [if_neg hjl]
    repeat (first | refine awp_seq ?_ | refine awp_block ?_ | refine awp_region_lit rfl ?_ | refine awp_skip ?_ | refine then_n ?_ | refine awp_cond_t rfl (by first | rfl | assumption | exact dT (by omega)) ?_ | refine awp_cond_f rfl (by first | rfl | assumption | exact dF (by omega)) ?_ | ((first | (show AWL _ _ _ (⟨_, .move _, _, _, _, _⟩ :: _) _ _ _; refine awl_pw ?w (pv_move rfl rfl) rfl rfl ?_) | (show AWL _ _ _ (⟨_, .assign _, _, _, _, _⟩ :: _) _ _ _; refine awl_pw ?w (pv_assign rfl rfl) rfl rfl ?_) | (show AWL _ _ _ (⟨_, .load _ _, _, _, _, _⟩ :: _) _ _ _; refine awl_lw ?w (lv_cl1 T0 rfl rfl rfl (by solve | repeat' constructor) (by first | rfl | assumption)) rfl rfl rfl ?_) | (show AWL _ _ _ (⟨_, .load _ _, _, _, _, _⟩ :: _) _ _ _; refine awl_lw ?w (lv_elt_sc T0 rfl rfl rfl rfl) rfl rfl rfl ?_) | (show AWL _ _ _ (⟨_, .fieldAddr _ _ _, _, _, _, _⟩ :: _) _ _ _; refine awl_pw ?w (pv_fa T0 rfl rfl rfl (by simp; rfl)) rfl rfl ?_) | (show AWL _ _ _ (⟨_, .indexAddr _ _ _, _, _, _, _⟩ :: _) _ _ _; refine awl_pw ?w (pv_ix_t T0 rfl rfl rfl rfl (by omega) (by first | exact Int.toNat_natCast _ | rfl)) rfl rfl ?_) | (show AWL _ _ _ (⟨_, .binOp .add _ _ _ _, _, _, _, _⟩ :: _) _ _ _; refine awl_pw ?w (pv_add rfl rfl rfl (by first | assumption | exact wr64 (by omega))) rfl rfl ?_) | (show AWL _ _ _ (⟨_, .binOp .sub _ _ _ _, _, _, _, _⟩ :: _) _ _ _; refine awl_pw ?w (pv_sub rfl rfl rfl (by first | assumption | exact wr64 (by omega))) rfl rfl ?_) | (show AWL _ _ _ (⟨_, .binOp .lss _ _ _ _, _, _, _, _⟩ :: _) _ _ _; refine awl_pw ?w (pv_lss rfl rfl rfl) rfl rfl ?_) | (show AWL _ _ _ (⟨_, .binOp .leq _ _ _ _, _, _, _, _⟩ :: _) _ _ _; refine awl_pw ?w (pv_leq rfl rfl rfl) rfl rfl ?_) | (show AWL _ _ _ (⟨_, .call ⟨.builtin .len, _, _⟩, _, _, _, _⟩ :: _) _ _ _; refine awl_pw ?w (pv_len_t T0 rfl rfl rfl) rfl rfl ?_) | (show AWL _ _ _ (⟨_, .pick _ _ _, _, _, _, _⟩ :: _) _ _ _; refine awl_pw ?w (pv_pick_t rfl rfl (by first | rfl | assumption | exact dT (by omega) | exact dF (by omega)) rfl) rfl rfl ?_)); case w => first | exact wt_none rfl | exact wt_some' rfl rfl rfl rfl (by first | rfl | assumption | exact dT (by omega) | exact dF (by omega))) | refine awl_nil ?_)
    rw [← hmo]
    refine rnd_n _ _ _ ?_ ⟨j + 1, by omega, rfl, rfl, rfl⟩ (by first | ((repeat' (first | exact True.intro | refine ⟨rfl, ?_⟩)); all_goals fail) | fail) (by solve | repeat' constructor)
    omega
  have d4 : decide (((n - j : Nat) : Int) < ((mostL sh p k).length : Int)) = true := decide_eq_true (by omega)
  have hmo : moK (mostL sh p k) (p.getD k 0) n (j + 1) = max (moK (mostL sh p k) (p.getD k 0) n j) ((mostL sh p k).getD (n - j) 0 + j * p.getD k 0) := by simp only [moK]; rw [if_pos hjl]
  have hx1 := hbd _ (getD_mem (d := (0 : Int)) hjl)
  have hx2 : 0 ≤ (j : Int) * p.getD k 0 := Int.mul_nonneg (by omega) hpk.1
  have hx3 : (j : Int) * p.getD k 0 ≤ 100 * 1000 := Int.le_trans (Int.mul_le_mul_of_nonneg_right (by omega : (j : Int) ≤ 100) hpk.1) (Int.mul_le_mul_of_nonneg_left hpk.2 (by omega))
  repeat (first | refine awp_seq ?_ | refine awp_block ?_ | refine awp_region_lit rfl ?_ | refine awp_skip ?_ | refine then_n ?_ | refine awp_cond_t rfl (by first | rfl | assumption | exact dT (by omega)) ?_ | ((first | (show AWL _ _ _ (⟨_, .move _, _, _, _, _⟩ :: _) _ _ _; refine awl_pw ?w (pv_move rfl rfl) rfl rfl ?_) | (show AWL _ _ _ (⟨_, .load _ _, _, _, _, _⟩ :: _) _ _ _; refine awl_lw ?w (lv_cl1 T0 rfl rfl rfl (by solve | repeat' constructor) (by first | rfl | assumption)) rfl rfl rfl ?_) | (show AWL _ _ _ (⟨_, .load _ _, _, _, _, _⟩ :: _) _ _ _; refine awl_lw ?w (lv_elt_sc T0 rfl rfl rfl rfl) rfl rfl rfl ?_) | (show AWL _ _ _ (⟨_, .fieldAddr _ _ _, _, _, _, _⟩ :: _) _ _ _; refine awl_pw ?w (pv_fa T0 rfl rfl rfl (by simp; rfl)) rfl rfl ?_) | (show AWL _ _ _ (⟨_, .indexAddr _ _ _, _, _, _, _⟩ :: _) _ _ _; refine awl_pw ?w (pv_ix_t T0 rfl rfl rfl rfl (by omega) (by first | exact Int.toNat_natCast _ | rfl)) rfl rfl ?_) | (show AWL _ _ _ (⟨_, .binOp .sub _ _ _ _, _, _, _, _⟩ :: _) _ _ _; refine awl_pw ?w (pv_sub rfl rfl rfl (by first | assumption | exact wr64 (by omega))) rfl rfl ?_) | (show AWL _ _ _ (⟨_, .binOp .lss _ _ _ _, _, _, _, _⟩ :: _) _ _ _; refine awl_pw ?w (pv_lss rfl rfl rfl) rfl rfl ?_) | (show AWL _ _ _ (⟨_, .binOp .leq _ _ _ _, _, _, _, _⟩ :: _) _ _ _; refine awl_pw ?w (pv_leq rfl rfl rfl) rfl rfl ?_) | (show AWL _ _ _ (⟨_, .call ⟨.builtin .len, _, _⟩, _, _, _, _⟩ :: _) _ _ _; refine awl_pw ?w (pv_len_t T0 rfl rfl rfl) rfl rfl ?_) | (show AWL _ _ _ (⟨_, .pick _ _ _, _, _, _, _⟩ :: _) _ _ _; refine awl_pw ?w (pv_pick_t rfl rfl (by first | rfl | assumption | exact dT (by omega) | exact dF (by omega)) rfl) rfl rfl ?_)); case w => first | exact wt_none rfl | exact wt_some' rfl rfl rfl rfl (by first | rfl | assumption | exact dT (by omega) | exact dF (by omega))) | refine awl_nil ?_)
  refine awp_tree T0 [(0, 0), (1, 0), (2, 0), (3, 0), (4, 0), (5, 0), (6, 1), (7, 0), (8, 0), (9, 0), (10, 0), (11, 1), (12, 0), (13, 0), (14, 0), (15, 0)] (.op 0 0 (.op 1 0 (.op 2 0 (.op 3 0 (.op 4 0 (.op 5 0 (.op 6 1 (.op 7 0 (.op 8 0 (.op 9 0 (.op 10 0 (.op 11 1 (.op 12 0 (.op 13 0 (.op 14 0 (.op 15 0 .stop)))))))))))))))) _ rfl (by kernel_rfl) (SubH.refl _) ?_
  refine awt_po rfl (wt_none rfl) (pv_move rfl rfl) rfl rfl ?_
  refine awt_po rfl (wt_none rfl) (pv_move rfl rfl) rfl rfl ?_
  refine awt_po rfl (wt_none rfl) (pv_move rfl rfl) rfl rfl ?_
  refine awt_po rfl (wt_none rfl) (pv_move rfl rfl) rfl rfl ?_
  refine awt_po rfl (wt_none rfl) (pv_sub rfl rfl rfl (by first | assumption | exact wr64 (by omega))) rfl rfl ?_
  refine awt_po rfl (wt_none rfl) (pv_ix_t T0 rfl rfl rfl rfl (by omega) (by first | exact Int.toNat_natCast _ | rfl)) rfl rfl ?_
  refine awt_lo rfl (wt_none rfl) (lv_elt_sc T0 rfl rfl rfl rfl) rfl rfl rfl ?_
  refine awt_po rfl (wt_none rfl) (pv_move rfl rfl) rfl rfl ?_
  refine awt_po rfl (wt_none rfl) (pv_move rfl rfl) rfl rfl ?_
  refine awt_po rfl (wt_none rfl) (pv_move rfl rfl) rfl rfl ?_
  refine awt_po rfl (wt_none rfl) (pv_ix_t T0 rfl rfl rfl rfl (by omega) (by first | exact Int.toNat_natCast _ | rfl)) rfl rfl ?_
  refine awt_lo rfl (wt_none rfl) (lv_elt_sc T0 rfl rfl rfl rfl) rfl rfl rfl ?_
  refine awt_po rfl (wt_none rfl) (pv_mul rfl rfl rfl (by first | assumption | exact wr64 (by omega))) rfl rfl ?_
  refine awt_po rfl (wt_none rfl) (pv_add rfl rfl rfl (by first | assumption | exact wr64 (by omega))) rfl rfl ?_
  refine awt_po rfl (wt_none rfl) (pv_max2 rfl rfl rfl) rfl rfl ?_
  refine awt_po rfl (wt_none rfl) (pv_assign rfl rfl) rfl rfl ?_
  refine awt_end ?_
  repeat (first | refine awp_region_lit rfl ?_ | ((first | (show AWL _ _ _ (⟨_, .move _, _, _, _, _⟩ :: _) _ _ _; refine awl_pw ?w (pv_move rfl rfl) rfl rfl ?_) | (show AWL _ _ _ (⟨_, .assign _, _, _, _, _⟩ :: _) _ _ _; refine awl_pw ?w (pv_assign rfl rfl) rfl rfl ?_) | (show AWL _ _ _ (⟨_, .binOp .add _ _ _ _, _, _, _, _⟩ :: _) _ _ _; refine awl_pw ?w (pv_add rfl rfl rfl (by first | assumption | exact wr64 (by omega))) rfl rfl ?_)); case w => first | exact wt_none rfl | exact wt_some' rfl rfl rfl rfl (by first | rfl | assumption | exact dT (by omega) | exact dF (by omega))) | refine awl_nil ?_)
  rw [← hmo]
  refine rnd_n _ _ _ ?_ ⟨j + 1, by omega, rfl, rfl, rfl⟩ (by first | ((repeat' (first | exact True.intro | refine ⟨rfl, ?_⟩)); all_goals fail) | fail) (by solve | repeat' constructor)
  omega
theorem fewest_p (cp cp' : Bool) (mo ma debt : Int) (sh p : List Int) (hl : p.length = sh.length) (h4 : sh.length ≤ 4) (hsh : ∀ x ∈ sh, 0 ≤ x ∧ x ≤ 100) (hp : ∀ x ∈ p, 0 ≤ x ∧ x ≤ 1000) (hd : 0 ≤ debt ∧ debt ≤ 1000000) (hm : 0 ≤ ma ∧ ma ≤ 100) :
    PCall Try.prog 52 [.ag [intA mo, intA ma, .t (intsT cp sh)], intA debt, .t (intsT cp' p)] (fun r => ∃ z, r = intA z ∧ FewOf (resB debt (dot sh p) ma) (mostL sh p sh.length) z) := by
  have hv := dot_in hsh hp h4
  have hlen := mostL_len (p := p) hsh sh.length (Nat.le_refl _)
  have hbd := mostL_bd hsh hp hl sh.length (Nat.le_refl _)
  refine acall_of_awp T0 Try.func52 rfl rfl rfl ?_
  repeat (first | refine awp_seq ?_ | refine awp_region_lit rfl ?_)
  refine awl_hw (by first | exact wt_none rfl | exact wt_some' rfl rfl rfl rfl (by first | rfl | assumption | exact dT (by omega) | exact dF (by omega))) (st_box rfl rfl rfl (by simp only [cellsA]; rfl) rfl rfl ?_)
  intro g3
  repeat (first | refine awp_seq ?_ | refine awp_region_lit rfl ?_ | ((first | (show AWL _ _ _ (⟨_, .move _, _, _, _, _⟩ :: _) _ _ _; refine awl_pw ?w (pv_move rfl rfl) rfl rfl ?_) | (show AWL _ _ _ (⟨_, .assign _, _, _, _, _⟩ :: _) _ _ _; refine awl_pw ?w (pv_assign rfl rfl) rfl rfl ?_) | (show AWL _ _ _ (⟨_, .load _ _, _, _, _, _⟩ :: _) _ _ _; refine awl_lw ?w (lv_cla T0 rfl rfl rfl (by solve | repeat' constructor) rfl) rfl rfl rfl ?_)); case w => first | exact wt_none rfl | exact wt_some' rfl rfl rfl rfl (by first | rfl | assumption | exact dT (by omega) | exact dF (by omega))) | refine awl_nil ?_)
  refine awl_hw (by first | exact wt_none rfl | exact wt_some' rfl rfl rfl rfl (by first | rfl | assumption | exact dT (by omega) | exact dF (by omega))) (st_call T0 (most_p cp cp' mo ma sh p hl h4 hsh hp) rfl rfl rfl rfl (by first | exact callee_lit | exact callee_v | exact callee_fn) (by solve | repeat' constructor) rfl rfl ?_)
  rintro _ rfl
  generalize mostL sh p sh.length = best at *
  repeat (first | refine awp_seq ?_ | refine awp_block ?_ | refine awp_region_lit rfl ?_ | ((first | (show AWL _ _ _ (⟨_, .assign _, _, _, _, _⟩ :: _) _ _ _; refine awl_pw ?w (pv_assign rfl rfl) rfl rfl ?_)); case w => first | exact wt_none rfl | exact wt_some' rfl rfl rfl rfl (by first | rfl | assumption | exact dT (by omega) | exact dF (by omega))) | refine awl_nil ?_)
  refine awp_loop (fun m s h => ∃ (n : Nat), n ≤ best.length ∧ m = best.length - n ∧ (∀ j, j < n → resB debt (dot sh p) ma (best.getD j 0) = false) ∧
    s = [(1, intA debt), (2, .t (intsT cp' p)), (3, .v (ptrV g3)), (7, .t (intsT true best)), (8, intA n)] ∧ h = [.cl g3 80 [intA mo, intA ma, .t (intsT cp sh)]]) ?_ ⟨0, Nat.zero_le _, rfl, (fun j hj => absurd hj (Nat.not_lt_zero _)), rfl, rfl⟩ (by first | ((repeat' (first | exact True.intro | refine ⟨rfl, ?_⟩)); all_goals fail) | fail) (by solve | repeat' constructor)
  rintro m s h ⟨n, hn, rfl, hno, rfl, rfl⟩
  by_cases hnt : n < best.length
  case neg =>
    obtain rfl : n = best.length := by omega
    repeat (first | refine awp_seq ?_ | refine awp_region_lit rfl ?_ | refine awp_exit ?_ | refine awp_ret ?_ | refine then_n ?_ | refine awp_cond_f rfl (by first | rfl | assumption | exact dF (by omega)) ?_ | ((first | (show AWL _ _ _ (⟨_, .move _, _, _, _, _⟩ :: _) _ _ _; refine awl_pw ?w (pv_move rfl rfl) rfl rfl ?_) | (show AWL _ _ _ (⟨_, .assign _, _, _, _, _⟩ :: _) _ _ _; refine awl_pw ?w (pv_assign rfl rfl) rfl rfl ?_) | (show AWL _ _ _ (⟨_, .binOp .lss _ _ _ _, _, _, _, _⟩ :: _) _ _ _; refine awl_pw ?w (pv_lss rfl rfl rfl) rfl rfl ?_) | (show AWL _ _ _ (⟨_, .call ⟨.builtin .len, _, _⟩, _, _, _, _⟩ :: _) _ _ _; refine awl_pw ?w (pv_len_t T0 rfl rfl rfl) rfl rfl ?_)); case w => first | exact wt_none rfl | exact wt_some' rfl rfl rfl rfl (by first | rfl | assumption | exact dT (by omega) | exact dF (by omega))) | refine awl_nil ?_)
    exact body_p (.cons rfl .nil) ⟨-1, rfl, .inl ⟨rfl, hno⟩⟩
  have hb := hbd _ (getD_mem (d := (0 : Int)) hnt)
  cases c : resB debt (dot sh p) ma (best.getD n 0)
  · repeat (first | refine awp_seq ?_ | refine awp_block ?_ | refine awp_region_lit rfl ?_ | refine awp_skip ?_ | refine then_n ?_ | refine awp_cond_t rfl (by first | rfl | assumption | exact dT (by omega)) ?_ | ((first | (show AWL _ _ _ (⟨_, .move _, _, _, _, _⟩ :: _) _ _ _; refine awl_pw ?w (pv_move rfl rfl) rfl rfl ?_) | (show AWL _ _ _ (⟨_, .binOp .lss _ _ _ _, _, _, _, _⟩ :: _) _ _ _; refine awl_pw ?w (pv_lss rfl rfl rfl) rfl rfl ?_) | (show AWL _ _ _ (⟨_, .call ⟨.builtin .len, _, _⟩, _, _, _, _⟩ :: _) _ _ _; refine awl_pw ?w (pv_len_t T0 rfl rfl rfl) rfl rfl ?_)); case w => first | exact wt_none rfl | exact wt_some' rfl rfl rfl rfl (by first | rfl | assumption | exact dT (by omega) | exact dF (by omega))) | refine awl_nil ?_)
    refine awp_tree T0 [(0, 0), (1, 0), (2, 1), (3, 0), (5, 0), (6, 1), (7, 0), (8, 0), (9, 0), (10, 1), (4, 2), (11, 3)] (.op 0 0 (.op 1 0 (.op 2 1 (.op 3 0 (.op 5 0 (.op 6 1 (.op 7 0 (.op 8 0 (.op 9 0 (.op 10 1 (.op 4 2 (.op 11 3 .stop)))))))))))) _ rfl (by kernel_rfl) (SubH.refl _) ?_
    refine awt_po rfl (wt_none rfl) (pv_move rfl rfl) rfl rfl ?_
    refine awt_po rfl (wt_none rfl) (pv_fa T0 rfl rfl rfl (by simp; rfl)) rfl rfl ?_
    refine awt_lo rfl (wt_none rfl) (lv_cl1 T0 rfl rfl rfl (by solve | repeat' constructor) (by first | rfl | assumption)) rfl rfl rfl ?_
    refine awt_po rfl (wt_none rfl) (pv_move rfl rfl) rfl rfl ?_
    refine awt_po rfl (wt_none rfl) (pv_fa T0 rfl rfl rfl (by simp; rfl)) rfl rfl ?_
    refine awt_lo rfl (wt_none rfl) (lv_cl1 T0 rfl rfl rfl (by solve | repeat' constructor) (by first | rfl | assumption)) rfl rfl rfl ?_
    refine awt_po rfl (wt_none rfl) (pv_move rfl rfl) rfl rfl ?_
    refine awt_po rfl (wt_none rfl) (pv_move rfl rfl) rfl rfl ?_
    refine awt_po rfl (wt_none rfl) (pv_ix_t T0 rfl rfl rfl rfl (by omega) (by first | exact Int.toNat_natCast _ | rfl)) rfl rfl ?_
    refine awt_lo rfl (wt_none rfl) (lv_elt_sc T0 rfl rfl rfl rfl) rfl rfl rfl ?_
    refine awt_h (hm := []) rfl (wt_none rfl) (by solve | repeat' constructor) rfl (st_call T0 (value_p cp cp' sh p (by omega) (by omega) (by omega) (fun x hx => by have := hsh x hx; omega) (fun x hx => by have := hp x hx; omega)) rfl rfl rfl rfl (by first | exact callee_lit | exact callee_v | exact callee_fn) (by solve | repeat' constructor) rfl rfl ?_)
    rintro _ rfl
    refine awt_s (md := fun _ => True) rfl (wt_none rfl) (st_call T0 (resq_p hd hv (by omega) hm c) rfl rfl rfl rfl (by first | exact callee_lit | exact callee_v | exact callee_fn) (by solve | repeat' constructor) rfl rfl ?_)
    rintro _ rfl
    refine awe_end ?_
    repeat (first | refine awp_region_lit rfl ?_ | refine awp_skip ?_ | refine then_n ?_ | refine awp_cond_f rfl (by first | rfl | assumption | exact dF (by omega)) ?_ | ((first | (show AWL _ _ _ (⟨_, .move _, _, _, _, _⟩ :: _) _ _ _; refine awl_pw ?w (pv_move rfl rfl) rfl rfl ?_) | (show AWL _ _ _ (⟨_, .assign _, _, _, _, _⟩ :: _) _ _ _; refine awl_pw ?w (pv_assign rfl rfl) rfl rfl ?_) | (show AWL _ _ _ (⟨_, .binOp .add _ _ _ _, _, _, _, _⟩ :: _) _ _ _; refine awl_pw ?w (pv_add rfl rfl rfl (by first | assumption | exact wr64 (by omega))) rfl rfl ?_)); case w => first | exact wt_none rfl | exact wt_some' rfl rfl rfl rfl (by first | rfl | assumption | exact dT (by omega) | exact dF (by omega))) | refine awl_nil ?_)
    refine rnd_n _ _ _ ?_ ⟨n + 1, hnt, rfl, fun j hj => ?_, rfl, rfl⟩ (by first | ((repeat' (first | exact True.intro | refine ⟨rfl, ?_⟩)); all_goals fail) | fail) (by solve | repeat' constructor)
    · omega
    · by_cases e : j = n
      · subst e; exact c
      · exact hno j (by omega)
  · repeat (first | refine awp_seq ?_ | refine awp_block ?_ | refine awp_region_lit rfl ?_ | refine awp_skip ?_ | refine then_n ?_ | refine awp_cond_t rfl (by first | rfl | assumption | exact dT (by omega)) ?_ | ((first | (show AWL _ _ _ (⟨_, .move _, _, _, _, _⟩ :: _) _ _ _; refine awl_pw ?w (pv_move rfl rfl) rfl rfl ?_) | (show AWL _ _ _ (⟨_, .binOp .lss _ _ _ _, _, _, _, _⟩ :: _) _ _ _; refine awl_pw ?w (pv_lss rfl rfl rfl) rfl rfl ?_) | (show AWL _ _ _ (⟨_, .call ⟨.builtin .len, _, _⟩, _, _, _, _⟩ :: _) _ _ _; refine awl_pw ?w (pv_len_t T0 rfl rfl rfl) rfl rfl ?_)); case w => first | exact wt_none rfl | exact wt_some' rfl rfl rfl rfl (by first | rfl | assumption | exact dT (by omega) | exact dF (by omega))) | refine awl_nil ?_)
    refine awp_tree T0 [(0, 0), (1, 0), (2, 1), (3, 0), (5, 0), (6, 1), (7, 0), (8, 0), (9, 0), (10, 1), (4, 2), (11, 3)] (.op 0 0 (.op 1 0 (.op 2 1 (.op 3 0 (.op 5 0 (.op 6 1 (.op 7 0 (.op 8 0 (.op 9 0 (.op 10 1 (.op 4 2 (.op 11 3 .stop)))))))))))) _ rfl (by kernel_rfl) (SubH.refl _) ?_
    refine awt_po rfl (wt_none rfl) (pv_move rfl rfl) rfl rfl ?_
    refine awt_po rfl (wt_none rfl) (pv_fa T0 rfl rfl rfl (by simp; rfl)) rfl rfl ?_
    refine awt_lo rfl (wt_none rfl) (lv_cl1 T0 rfl rfl rfl (by solve | repeat' constructor) (by first | rfl | assumption)) rfl rfl rfl ?_
    refine awt_po rfl (wt_none rfl) (pv_move rfl rfl) rfl rfl ?_
    refine awt_po rfl (wt_none rfl) (pv_fa T0 rfl rfl rfl (by simp; rfl)) rfl rfl ?_
    refine awt_lo rfl (wt_none rfl) (lv_cl1 T0 rfl rfl rfl (by solve | repeat' constructor) (by first | rfl | assumption)) rfl rfl rfl ?_
    refine awt_po rfl (wt_none rfl) (pv_move rfl rfl) rfl rfl ?_
    refine awt_po rfl (wt_none rfl) (pv_move rfl rfl) rfl rfl ?_
    refine awt_po rfl (wt_none rfl) (pv_ix_t T0 rfl rfl rfl rfl (by omega) (by first | exact Int.toNat_natCast _ | rfl)) rfl rfl ?_
    refine awt_lo rfl (wt_none rfl) (lv_elt_sc T0 rfl rfl rfl rfl) rfl rfl rfl ?_
    refine awt_h (hm := []) rfl (wt_none rfl) (by solve | repeat' constructor) rfl (st_call T0 (value_p cp cp' sh p (by omega) (by omega) (by omega) (fun x hx => by have := hsh x hx; omega) (fun x hx => by have := hp x hx; omega)) rfl rfl rfl rfl (by first | exact callee_lit | exact callee_v | exact callee_fn) (by solve | repeat' constructor) rfl rfl ?_)
    rintro _ rfl
    refine awt_s (md := fun _ => True) rfl (wt_none rfl) (st_call T0 (resq_p hd hv (by omega) hm c) rfl rfl rfl rfl (by first | exact callee_lit | exact callee_v | exact callee_fn) (by solve | repeat' constructor) rfl rfl ?_)
    rintro _ rfl
    refine awe_end ?_
    repeat (first | refine awp_seq ?_ | refine awp_region_lit rfl ?_ | refine awp_ret ?_ | refine then_n ?_ | refine then_r ?_ | refine blk_r ?_ | refine rnd_r ?_ | refine awp_cond_t rfl (by first | rfl | assumption | exact dT (by omega)) ?_ | ((first | (show AWL _ _ _ (⟨_, .move _, _, _, _, _⟩ :: _) _ _ _; refine awl_pw ?w (pv_move rfl rfl) rfl rfl ?_) | (show AWL _ _ _ (⟨_, .assign _, _, _, _, _⟩ :: _) _ _ _; refine awl_pw ?w (pv_assign rfl rfl) rfl rfl ?_)); case w => first | exact wt_none rfl | exact wt_some' rfl rfl rfl rfl (by first | rfl | assumption | exact dT (by omega) | exact dF (by omega))) | refine awl_nil ?_)
    exact body_p (.cons rfl .nil) ⟨n, rfl, .inr ⟨n, hnt, rfl, c, hno⟩⟩
end Go.Proofs.Ytfiacjdkdjkiiaa
