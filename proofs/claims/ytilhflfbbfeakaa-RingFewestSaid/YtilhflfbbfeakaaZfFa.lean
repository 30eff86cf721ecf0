/- Joined texts: Rrp, Fa. -/
import Derived.Test.YtilhflfbbfeakaaZfDe0
import Derived.Test.YtilhflfbbfeakaaZfRq
import Derived.Test.YtilhflfbbfeakaaZfDh
import Derived.Test.YtilhflfbbfeakaaZfDg
section
namespace Go.Proofs.Ytilhflfbbfeakaa
open Go Go.RowKit Go.Tl
set_option linter.unusedVariables false
set_option linter.unusedSimpArgs false
set_option maxRecDepth 100000
set_option maxHeartbeats 4000000
attribute [local irreducible] AWP AWL AOp PV LV AWT AWE
def pos1 (x : Int) : Int := if 0 < x then 1 else 0
/-- how many numbers are above 0 -/
def aboveN (l : List Int) : Int := sumI (l.map pos1)
theorem above_take {l : List Int} {k : Nat} (h : k < l.length) : aboveN (l.take (k + 1)) = aboveN (l.take k) + pos1 (l.getD k 0) := by
  unfold aboveN
  rw [List.take_succ_eq_append_getElem h, List.map_append, sumI_append]
  simp [sumI, List.getD_eq_getElem?_getD, h]
theorem above_bd : ∀ l : List Int, 0 ≤ aboveN l ∧ aboveN l ≤ l.length
  | [] => by simp [aboveN, sumI]
  | x :: xs => by
    have ih := above_bd xs
    have e : aboveN (x :: xs) = pos1 x + aboveN xs := rfl
    have h1 : 0 ≤ pos1 x ∧ pos1 x ≤ 1 := by unfold pos1; split <;> omega
    rw [e, List.length_cons]
    omega
/-- deliveries -/
def delivB (b : BookD) (l : List Int) : Bool := listedB b l && decide (netL b (fun i => l.getD i 0) = netL b (numF b))
theorem isdel_q (cp' : Bool) (b : BookD) (l : List Int) (hv : VBook b) (hl : l.length ≤ 1000) {r : Bool} (e : delivB b l = r) : PCall Try.prog 40 [bookA false b, .t (intsT cp' l)] (fun x => x = .tup [intA (if r = true then aboveN l else 0), boolA r]) := by
  have hlen := hv.len
  have hh := hv.houses
  refine acall_of_awp T0 Try.func40 rfl rfl rfl ?_
  repeat (first | refine awp_seq ?_ | refine awp_region_lit rfl ?_)
  refine awl_hw (by first | exact wt_none rfl | exact wt_some' rfl rfl rfl rfl (by first | rfl | assumption | exact dT (by omega) | exact dF (by omega))) (st_box rfl rfl (by first | rfl | assumption) (by first | assumption | (simp only [cellsA]; rfl)) rfl rfl ?_)
  intro g2
  repeat (first | refine awp_seq ?_ | refine awp_region_lit rfl ?_ | ((first | (show AWL _ _ _ (⟨_, .move _, _, _, _, _⟩ :: _) _ _ _; refine awl_pw ?w (pv_move rfl rfl) rfl rfl ?_) | (show AWL _ _ _ (⟨_, .assign _, _, _, _, _⟩ :: _) _ _ _; refine awl_pw ?w (pv_assign rfl rfl) rfl rfl ?_) | (show AWL _ _ _ (⟨_, .load _ _, _, _, _, _⟩ :: _) _ _ _; refine awl_lw ?w (lv_cla T0 rfl rfl rfl (by solve | repeat' constructor) rfl) rfl rfl rfl ?_)); case w => first | exact wt_none rfl | exact wt_some' rfl rfl rfl rfl (by first | rfl | assumption | exact dT (by omega) | exact dF (by omega))) | refine awl_nil ?_)
  unfold delivB at e
  cases e1 : listedB b l
  · rw [e1] at e
    subst e
    refine awl_hw (by first | exact wt_none rfl | exact wt_some' rfl rfl rfl rfl (by first | rfl | assumption | exact dT (by omega) | exact dF (by omega))) (st_call T0 (rlisted_q hl (by omega) e1) rfl rfl rfl rfl (by first | exact callee_lit | exact callee_v | exact callee_fn | assumption) (by solve | repeat' constructor) (by first | rfl | assumption) rfl ?_)
    rintro _ rfl
    repeat (first | refine awp_seq ?_ | refine awp_region_lit rfl ?_ | refine awp_ret ?_ | refine then_n ?_ | refine then_r ?_ | refine awp_cond_t rfl (by first | rfl | assumption | exact dT (by omega)) ?_ | ((first | (show AWL _ _ _ (⟨_, .assign _, _, _, _, _⟩ :: _) _ _ _; refine awl_pw ?w (pv_assign rfl rfl) rfl rfl ?_) | (show AWL _ _ _ (⟨_, .unOp .not _ _, _, _, _, _⟩ :: _) _ _ _; refine awl_pw ?w (pv_not rfl rfl) rfl rfl ?_)); case w => first | exact wt_none rfl | exact wt_some' rfl rfl rfl rfl (by first | rfl | assumption | exact dT (by omega) | exact dF (by omega))) | refine awl_nil ?_)
    exact body_p (.cons rfl (.cons rfl .nil)) rfl
  have hll := (listed_iff.1 e1).1
  rw [e1] at e
  refine awl_hw (by first | exact wt_none rfl | exact wt_some' rfl rfl rfl rfl (by first | rfl | assumption | exact dT (by omega) | exact dF (by omega))) (st_call T0 (rlisted_q hl (by omega) e1) rfl rfl rfl rfl (by first | exact callee_lit | exact callee_v | exact callee_fn | assumption) (by solve | repeat' constructor) (by first | rfl | assumption) rfl ?_)
  rintro _ rfl
  have hml : (b.cons.map (·.num)).length = b.cons.length := by simp
  have hmb : ∀ i, i < (b.cons.map (·.num)).length → -1000000 ≤ (b.cons.map (·.num)).getD i 0 ∧ (b.cons.map (·.num)).getD i 0 ≤ 1000000 := fun i hi => by
    rw [nums_at (by omega)]
    have := hv.num i (by omega)
    unfold numF
    omega
  have hlb := listed_bd hv e1
  repeat (first | refine awp_seq ?_ | refine awp_skip ?_ | refine then_n ?_ | refine awp_cond_f rfl (by first | rfl | assumption | exact dF (by omega)) ?_ | ((first | (show AWL _ _ _ (⟨_, .unOp .not _ _, _, _, _, _⟩ :: _) _ _ _; refine awl_pw ?w (pv_not rfl rfl) rfl rfl ?_)); case w => first | exact wt_none rfl | exact wt_some' rfl rfl rfl rfl (by first | rfl | assumption | exact dT (by omega) | exact dF (by omega))) | refine awl_nil ?_)
  refine awp_tree T0 [(0, 1), (1, 1), (4, 1), (5, 0), (2, 2), (3, 2), (6, 3), (7, 0), (8, 0)] (.op 0 1 (.op 1 1 (.op 4 1 (.op 5 0 (.op 2 2 (.op 3 2 (.op 6 3 (.op 7 0 (.op 8 0 .stop))))))))) _ rfl (by kernel_rfl) (SubH.refl _) ?_
  refine awt_lo rfl (wt_none rfl) (lv_cla T0 rfl rfl rfl (by solve | repeat' constructor) rfl) rfl rfl rfl ?_
  refine awt_lo rfl (wt_none rfl) (lv_cla T0 rfl rfl rfl (by solve | repeat' constructor) rfl) rfl rfl rfl ?_
  refine awt_lo rfl (wt_none rfl) (lv_cla T0 rfl rfl rfl (by solve | repeat' constructor) rfl) rfl rfl rfl ?_
  refine awt_po rfl (wt_none rfl) (pv_move rfl rfl) rfl rfl ?_
  refine awt_h (hm := []) rfl (wt_none rfl) (by solve | repeat' constructor) rfl (st_call T0 (all_p false b (by omega)) rfl rfl rfl rfl (by first | exact callee_lit | exact callee_v | exact callee_fn | assumption) (by solve | repeat' constructor) (by first | rfl | assumption) rfl ?_)
  rintro _ rfl
  refine awt_h (hm := []) rfl (wt_none rfl) (by solve | repeat' constructor) rfl (st_call T0 (net_p b true (b.cons.map (·.num)) hv hml hmb) rfl rfl rfl rfl (by first | exact callee_lit | exact callee_v | exact callee_fn | assumption) (by solve | repeat' constructor) (by first | rfl | assumption) rfl ?_)
  rintro _ rfl
  refine awt_s (md := fun _ => True) rfl (wt_none rfl) (st_call T0 (net_p b cp' l hv hll (fun i hi => hlb i (by omega))) rfl rfl rfl rfl (by first | exact callee_lit | exact callee_v | exact callee_fn | assumption) (by solve | repeat' constructor) (by first | rfl | assumption) rfl ?_)
  rintro _ rfl
  refine awe_p rfl (wt_none rfl) (pv_assign rfl rfl) rfl rfl ?_
  refine awe_p rfl (wt_none rfl) (pv_assign rfl rfl) rfl rfl ?_
  refine awe_end ?_
  have hneq : netL b (fun i => (b.cons.map (·.num)).getD i 0) = netL b (numF b) := netL_congr fun i hi => nums_at hi
  rw [hneq]
  have hn1 : (netL b (numF b)).length = b.houses.toNat := netL_len
  have hn2 : (netL b fun i => l.getD i 0).length = b.houses.toNat := netL_len
  generalize netL b (numF b) = W at *
  generalize (netL b fun i => l.getD i 0) = H at *
  repeat (first | refine awp_seq ?_ | refine awp_block ?_ | refine awp_region_lit rfl ?_ | ((first | (show AWL _ _ _ (⟨_, .assign _, _, _, _, _⟩ :: _) _ _ _; refine awl_pw ?w (pv_assign rfl rfl) rfl rfl ?_)); case w => first | exact wt_none rfl | exact wt_some' rfl rfl rfl rfl (by first | rfl | assumption | exact dT (by omega) | exact dF (by omega))) | refine awl_nil ?_)
  refine awp_loop (fun m s h => ∃ (k : Nat), (k : Int) ≤ b.houses ∧ m = b.houses.toNat - k ∧ (∀ j, j < k → W.getD j 0 = H.getD j 0) ∧ s = [(1, .t (intsT cp' l)), (2, .v (ptrV g2)), (6, .t (intsT true W)), (7, .t (intsT true H)), (8, intA k)] ∧ h = [refB g2 b]) ?_ ⟨0, by omega, rfl, (fun j hj => absurd hj (Nat.not_lt_zero _)), rfl, rfl⟩ (by first | ((repeat' (first | exact True.intro | refine ⟨rfl, ?_⟩)); all_goals fail) | fail) (by solve | repeat' constructor)
  rintro m s h ⟨k, hk, rfl, hall, rfl, rfl⟩
  by_cases hlt : (k : Int) < b.houses
  · have hkw : k < W.length := by omega
    have hkh : k < H.length := by omega
    by_cases c : W.getD k 0 = H.getD k 0
    · have d2 : decide (W.getD k 0 ≠ H.getD k 0) = false := decide_eq_false (by simpa using c)
      repeat (first | refine awp_seq ?_ | refine awp_block ?_ | refine awp_region_lit rfl ?_ | refine awp_skip ?_ | refine then_n ?_ | refine awp_cond_t rfl (by first | rfl | assumption | exact dT (by omega)) ?_ | ((first | (show AWL _ _ _ (⟨_, .move _, _, _, _, _⟩ :: _) _ _ _; refine awl_pw ?w (pv_move rfl rfl) rfl rfl ?_) | (show AWL _ _ _ (⟨_, .load _ _, _, _, _, _⟩ :: _) _ _ _; refine awl_lw ?w (lv_cl1 T0 rfl rfl rfl (by solve | repeat' constructor) (by first | rfl | assumption)) rfl rfl rfl ?_) | (show AWL _ _ _ (⟨_, .fieldAddr _ _ _, _, _, _, _⟩ :: _) _ _ _; refine awl_pw ?w (pv_fa T0 rfl rfl rfl (by simp; rfl)) rfl rfl ?_) | (show AWL _ _ _ (⟨_, .binOp .lss _ _ _ _, _, _, _, _⟩ :: _) _ _ _; refine awl_pw ?w (pv_lss rfl rfl rfl) rfl rfl ?_)); case w => first | exact wt_none rfl | exact wt_some' rfl rfl rfl rfl (by first | rfl | assumption | exact dT (by omega) | exact dF (by omega))) | refine awl_nil ?_)
      refine awp_tree T0 [(0, 0), (1, 0), (2, 0), (3, 1), (4, 0), (5, 0), (6, 0), (7, 1), (8, 0)] (.op 0 0 (.op 1 0 (.op 2 0 (.op 3 1 (.op 4 0 (.op 5 0 (.op 6 0 (.op 7 1 (.op 8 0 .stop))))))))) _ rfl (by kernel_rfl) (SubH.refl _) ?_
      refine awt_po rfl (wt_none rfl) (pv_move rfl rfl) rfl rfl ?_
      refine awt_po rfl (wt_none rfl) (pv_move rfl rfl) rfl rfl ?_
      refine awt_po rfl (wt_none rfl) (pv_ix_t T0 rfl rfl rfl rfl (by omega) (by first | exact Int.toNat_natCast _ | rfl)) rfl rfl ?_
      refine awt_lo rfl (wt_none rfl) (lv_elt_sc T0 rfl rfl rfl rfl) rfl rfl rfl ?_
      refine awt_po rfl (wt_none rfl) (pv_move rfl rfl) rfl rfl ?_
      refine awt_po rfl (wt_none rfl) (pv_move rfl rfl) rfl rfl ?_
      refine awt_po rfl (wt_none rfl) (pv_ix_t T0 rfl rfl rfl rfl (by omega) (by first | exact Int.toNat_natCast _ | rfl)) rfl rfl ?_
      refine awt_lo rfl (wt_none rfl) (lv_elt_sc T0 rfl rfl rfl rfl) rfl rfl rfl ?_
      refine awt_po rfl (wt_none rfl) (pv_neq rfl rfl rfl) rfl rfl ?_
      refine awt_end ?_
      repeat (first | refine awp_region_lit rfl ?_ | refine awp_skip ?_ | refine then_n ?_ | refine awp_cond_f rfl (by first | rfl | assumption | exact dF (by omega)) ?_ | ((first | (show AWL _ _ _ (⟨_, .move _, _, _, _, _⟩ :: _) _ _ _; refine awl_pw ?w (pv_move rfl rfl) rfl rfl ?_) | (show AWL _ _ _ (⟨_, .assign _, _, _, _, _⟩ :: _) _ _ _; refine awl_pw ?w (pv_assign rfl rfl) rfl rfl ?_) | (show AWL _ _ _ (⟨_, .binOp .add _ _ _ _, _, _, _, _⟩ :: _) _ _ _; refine awl_pw ?w (pv_add rfl rfl rfl (by first | assumption | exact wr64 (by omega))) rfl rfl ?_)); case w => first | exact wt_none rfl | exact wt_some' rfl rfl rfl rfl (by first | rfl | assumption | exact dT (by omega) | exact dF (by omega))) | refine awl_nil ?_)
      refine rnd_n _ _ _ ?_ ⟨k + 1, by omega, rfl, fun j hj => ?_, rfl, rfl⟩ (by first | ((repeat' (first | exact True.intro | refine ⟨rfl, ?_⟩)); all_goals fail) | fail) (by solve | repeat' constructor)
      · omega
      · by_cases e : j = k
        · subst e; exact c
        · exact hall j (by omega)
    · have d2 : decide (W.getD k 0 ≠ H.getD k 0) = true := decide_eq_true c
      rw [decide_eq_false (fun e => c (by rw [e]))] at e
      subst e
      repeat (first | refine awp_seq ?_ | refine awp_block ?_ | refine awp_region_lit rfl ?_ | refine awp_skip ?_ | refine then_n ?_ | refine awp_cond_t rfl (by first | rfl | assumption | exact dT (by omega)) ?_ | ((first | (show AWL _ _ _ (⟨_, .move _, _, _, _, _⟩ :: _) _ _ _; refine awl_pw ?w (pv_move rfl rfl) rfl rfl ?_) | (show AWL _ _ _ (⟨_, .load _ _, _, _, _, _⟩ :: _) _ _ _; refine awl_lw ?w (lv_cl1 T0 rfl rfl rfl (by solve | repeat' constructor) (by first | rfl | assumption)) rfl rfl rfl ?_) | (show AWL _ _ _ (⟨_, .fieldAddr _ _ _, _, _, _, _⟩ :: _) _ _ _; refine awl_pw ?w (pv_fa T0 rfl rfl rfl (by simp; rfl)) rfl rfl ?_) | (show AWL _ _ _ (⟨_, .binOp .lss _ _ _ _, _, _, _, _⟩ :: _) _ _ _; refine awl_pw ?w (pv_lss rfl rfl rfl) rfl rfl ?_)); case w => first | exact wt_none rfl | exact wt_some' rfl rfl rfl rfl (by first | rfl | assumption | exact dT (by omega) | exact dF (by omega))) | refine awl_nil ?_)
      refine awp_tree T0 [(0, 0), (1, 0), (2, 0), (3, 1), (4, 0), (5, 0), (6, 0), (7, 1), (8, 0)] (.op 0 0 (.op 1 0 (.op 2 0 (.op 3 1 (.op 4 0 (.op 5 0 (.op 6 0 (.op 7 1 (.op 8 0 .stop))))))))) _ rfl (by kernel_rfl) (SubH.refl _) ?_
      refine awt_po rfl (wt_none rfl) (pv_move rfl rfl) rfl rfl ?_
      refine awt_po rfl (wt_none rfl) (pv_move rfl rfl) rfl rfl ?_
      refine awt_po rfl (wt_none rfl) (pv_ix_t T0 rfl rfl rfl rfl (by omega) (by first | exact Int.toNat_natCast _ | rfl)) rfl rfl ?_
      refine awt_lo rfl (wt_none rfl) (lv_elt_sc T0 rfl rfl rfl rfl) rfl rfl rfl ?_
      refine awt_po rfl (wt_none rfl) (pv_move rfl rfl) rfl rfl ?_
      refine awt_po rfl (wt_none rfl) (pv_move rfl rfl) rfl rfl ?_
      refine awt_po rfl (wt_none rfl) (pv_ix_t T0 rfl rfl rfl rfl (by omega) (by first | exact Int.toNat_natCast _ | rfl)) rfl rfl ?_
      refine awt_lo rfl (wt_none rfl) (lv_elt_sc T0 rfl rfl rfl rfl) rfl rfl rfl ?_
      refine awt_po rfl (wt_none rfl) (pv_neq rfl rfl rfl) rfl rfl ?_
      refine awt_end ?_
      repeat (first | refine awp_seq ?_ | refine awp_region_lit rfl ?_ | refine awp_ret ?_ | refine then_n ?_ | refine then_r ?_ | refine blk_r ?_ | refine rnd_r ?_ | refine awp_cond_t rfl (by first | rfl | assumption | exact dT (by omega)) ?_ | ((first | (show AWL _ _ _ (⟨_, .assign _, _, _, _, _⟩ :: _) _ _ _; refine awl_pw ?w (pv_assign rfl rfl) rfl rfl ?_)); case w => first | exact wt_none rfl | exact wt_some' rfl rfl rfl rfl (by first | rfl | assumption | exact dT (by omega) | exact dF (by omega))) | refine awl_nil ?_)
      exact body_p (.cons rfl (.cons rfl .nil)) rfl
  have hWH : H = W := List.ext_getElem (by omega) fun j h1 h2 => by
    have := hall j (by omega)
    simpa [List.getD_eq_getElem?_getD, h1, h2] using this.symm
  rw [decide_eq_true hWH] at e
  subst e
  repeat (first | refine awp_seq ?_ | refine awp_block ?_ | refine awp_region_lit rfl ?_ | refine awp_exit ?_ | refine then_n ?_ | refine awp_cond_f rfl (by first | rfl | assumption | exact dF (by omega)) ?_ | ((first | (show AWL _ _ _ (⟨_, .move _, _, _, _, _⟩ :: _) _ _ _; refine awl_pw ?w (pv_move rfl rfl) rfl rfl ?_) | (show AWL _ _ _ (⟨_, .assign _, _, _, _, _⟩ :: _) _ _ _; refine awl_pw ?w (pv_assign rfl rfl) rfl rfl ?_) | (show AWL _ _ _ (⟨_, .load _ _, _, _, _, _⟩ :: _) _ _ _; refine awl_lw ?w (lv_cl1 T0 rfl rfl rfl (by solve | repeat' constructor) (by first | rfl | assumption)) rfl rfl rfl ?_) | (show AWL _ _ _ (⟨_, .fieldAddr _ _ _, _, _, _, _⟩ :: _) _ _ _; refine awl_pw ?w (pv_fa T0 rfl rfl rfl (by simp; rfl)) rfl rfl ?_) | (show AWL _ _ _ (⟨_, .binOp .lss _ _ _ _, _, _, _, _⟩ :: _) _ _ _; refine awl_pw ?w (pv_lss rfl rfl rfl) rfl rfl ?_)); case w => first | exact wt_none rfl | exact wt_some' rfl rfl rfl rfl (by first | rfl | assumption | exact dT (by omega) | exact dF (by omega))) | refine awl_nil ?_)
  refine awp_loop (fun m s h => ∃ (k : Nat), k ≤ l.length ∧ m = l.length - k ∧ s = [(1, .t (intsT cp' l)), (9, intA (aboveN (l.take k))), (10, intA k)] ∧ h = []) ?_ ⟨0, by omega, rfl, rfl, rfl⟩ (by first | ((repeat' (first | exact True.intro | refine ⟨rfl, ?_⟩)); all_goals fail) | fail) (by solve | repeat' constructor)
  rintro m s h ⟨k, hk, rfl, rfl, rfl⟩
  by_cases hlt2 : k < l.length
  · have hb := above_bd (l.take k)
    rw [List.length_take, Nat.min_eq_left hk] at hb
    have hst := above_take hlt2
    by_cases c : 0 < l.getD k 0
    · have d1 : decide (0 < l.getD k 0) = true := decide_eq_true c
      have hp1 : pos1 (l.getD k 0) = 1 := if_pos c
      rw [hp1] at hst
      repeat (first | refine awp_seq ?_ | refine awp_block ?_ | refine awp_region_lit rfl ?_ | refine awp_skip ?_ | refine then_n ?_ | refine awp_cond_t rfl (by first | rfl | assumption | exact dT (by omega)) ?_ | ((first | (show AWL _ _ _ (⟨_, .move _, _, _, _, _⟩ :: _) _ _ _; refine awl_pw ?w (pv_move rfl rfl) rfl rfl ?_) | (show AWL _ _ _ (⟨_, .assign _, _, _, _, _⟩ :: _) _ _ _; refine awl_pw ?w (pv_assign rfl rfl) rfl rfl ?_) | (show AWL _ _ _ (⟨_, .load _ _, _, _, _, _⟩ :: _) _ _ _; refine awl_lw ?w (lv_elt_sc T0 rfl rfl rfl rfl) rfl rfl rfl ?_) | (show AWL _ _ _ (⟨_, .indexAddr _ _ _, _, _, _, _⟩ :: _) _ _ _; refine awl_pw ?w (pv_ix_t T0 rfl rfl rfl rfl (by omega) (by first | exact Int.toNat_natCast _ | rfl)) rfl rfl ?_) | (show AWL _ _ _ (⟨_, .binOp .add _ _ _ _, _, _, _, _⟩ :: _) _ _ _; refine awl_pw ?w (pv_add rfl rfl rfl (by first | assumption | exact wr64 (by omega))) rfl rfl ?_) | (show AWL _ _ _ (⟨_, .binOp .lss _ _ _ _, _, _, _, _⟩ :: _) _ _ _; refine awl_pw ?w (pv_lss rfl rfl rfl) rfl rfl ?_) | (show AWL _ _ _ (⟨_, .binOp .gtr _ _ _ _, _, _, _, _⟩ :: _) _ _ _; refine awl_pw ?w (pv_gtr rfl rfl rfl) rfl rfl ?_) | (show AWL _ _ _ (⟨_, .call ⟨.builtin .len, _, _⟩, _, _, _, _⟩ :: _) _ _ _; refine awl_pw ?w (pv_len_t T0 rfl rfl rfl) rfl rfl ?_)); case w => first | exact wt_none rfl | exact wt_some' rfl rfl rfl rfl (by first | rfl | assumption | exact dT (by omega) | exact dF (by omega))) | refine awl_nil ?_)
      rw [← hst]
      refine rnd_n _ _ _ ?_ ⟨k + 1, hlt2, rfl, rfl, rfl⟩ (by first | ((repeat' (first | exact True.intro | refine ⟨rfl, ?_⟩)); all_goals fail) | fail) (by solve | repeat' constructor)
      omega
    · have d1 : decide (0 < l.getD k 0) = false := decide_eq_false c
      have hp1 : pos1 (l.getD k 0) = 0 := if_neg c
      rw [hp1, Int.add_zero] at hst
      repeat (first | refine awp_seq ?_ | refine awp_block ?_ | refine awp_region_lit rfl ?_ | refine awp_skip ?_ | refine then_n ?_ | refine awp_cond_t rfl (by first | rfl | assumption | exact dT (by omega)) ?_ | refine awp_cond_f rfl (by first | rfl | assumption | exact dF (by omega)) ?_ | ((first | (show AWL _ _ _ (⟨_, .move _, _, _, _, _⟩ :: _) _ _ _; refine awl_pw ?w (pv_move rfl rfl) rfl rfl ?_) | (show AWL _ _ _ (⟨_, .assign _, _, _, _, _⟩ :: _) _ _ _; refine awl_pw ?w (pv_assign rfl rfl) rfl rfl ?_) | (show AWL _ _ _ (⟨_, .load _ _, _, _, _, _⟩ :: _) _ _ _; refine awl_lw ?w (lv_elt_sc T0 rfl rfl rfl rfl) rfl rfl rfl ?_) | (show AWL _ _ _ (⟨_, .indexAddr _ _ _, _, _, _, _⟩ :: _) _ _ _; refine awl_pw ?w (pv_ix_t T0 rfl rfl rfl rfl (by omega) (by first | exact Int.toNat_natCast _ | rfl)) rfl rfl ?_) | (show AWL _ _ _ (⟨_, .binOp .add _ _ _ _, _, _, _, _⟩ :: _) _ _ _; refine awl_pw ?w (pv_add rfl rfl rfl (by first | assumption | exact wr64 (by omega))) rfl rfl ?_) | (show AWL _ _ _ (⟨_, .binOp .lss _ _ _ _, _, _, _, _⟩ :: _) _ _ _; refine awl_pw ?w (pv_lss rfl rfl rfl) rfl rfl ?_) | (show AWL _ _ _ (⟨_, .binOp .gtr _ _ _ _, _, _, _, _⟩ :: _) _ _ _; refine awl_pw ?w (pv_gtr rfl rfl rfl) rfl rfl ?_) | (show AWL _ _ _ (⟨_, .call ⟨.builtin .len, _, _⟩, _, _, _, _⟩ :: _) _ _ _; refine awl_pw ?w (pv_len_t T0 rfl rfl rfl) rfl rfl ?_)); case w => first | exact wt_none rfl | exact wt_some' rfl rfl rfl rfl (by first | rfl | assumption | exact dT (by omega) | exact dF (by omega))) | refine awl_nil ?_)
      rw [← hst]
      refine rnd_n _ _ _ ?_ ⟨k + 1, hlt2, rfl, rfl, rfl⟩ (by first | ((repeat' (first | exact True.intro | refine ⟨rfl, ?_⟩)); all_goals fail) | fail) (by solve | repeat' constructor)
      omega
  obtain rfl : k = l.length := by omega
  rw [List.take_length]
  repeat (first | refine awp_seq ?_ | refine awp_region_lit rfl ?_ | refine awp_exit ?_ | refine awp_ret ?_ | refine then_n ?_ | refine awp_cond_f rfl (by first | rfl | assumption | exact dF (by omega)) ?_ | ((first | (show AWL _ _ _ (⟨_, .move _, _, _, _, _⟩ :: _) _ _ _; refine awl_pw ?w (pv_move rfl rfl) rfl rfl ?_) | (show AWL _ _ _ (⟨_, .assign _, _, _, _, _⟩ :: _) _ _ _; refine awl_pw ?w (pv_assign rfl rfl) rfl rfl ?_) | (show AWL _ _ _ (⟨_, .binOp .lss _ _ _ _, _, _, _, _⟩ :: _) _ _ _; refine awl_pw ?w (pv_lss rfl rfl rfl) rfl rfl ?_) | (show AWL _ _ _ (⟨_, .call ⟨.builtin .len, _, _⟩, _, _, _, _⟩ :: _) _ _ _; refine awl_pw ?w (pv_len_t T0 rfl rfl rfl) rfl rfl ?_)); case w => first | exact wt_none rfl | exact wt_some' rfl rfl rfl rfl (by first | rfl | assumption | exact dT (by omega) | exact dF (by omega))) | refine awl_nil ?_)
  exact body_p (.cons rfl (.cons rfl .nil)) rfl
section
variable {b : BookD} {l : List Int} {g3 g4 : Nat} {cp c1 : Bool} {many ab : Int}
end
end Go.Proofs.Ytilhflfbbfeakaa
end
section
namespace Go.Proofs.Ytilhflfbbfeakaa
open Go Go.RowKit Go.Tl
set_option linter.unusedVariables false
set_option linter.unusedSimpArgs false
/-- no contract of the smallest set can be done without -/
theorem few_less {b : BookD} (hv : VBook b) {s : List Int} {f : Nat → Int} (h : MinS b s) (hD : DelF b (capS b (inL s)) f) {i : Nat} (hi : inL s i = true) (h0 : f i = 0) : False := by
  have hx := ext_iff.1 h.ext
  have hin : ∀ j, inL (s.filter (fun x => decide (x ≠ (i : Int)))) j = (inL s j && decide (j ≠ i)) := fun j => by
    unfold inL
    cases c : s.contains (j : Int)
    · simp at c ⊢
      intro h1; exact absurd h1 c
    · simp at c ⊢
      by_cases e : j = i
      · subst e; simp
      · simp [c, e]
        omega
  refine h.min (s.filter (fun x => decide (x ≠ (i : Int)))) (ext_iff.2 ⟨fun x hx' => hx.1 x (List.mem_filter.1 hx').1, hx.2.filter _⟩) (enough_of hv (f := f) ⟨fun j hj => ?_, hD.net⟩) (.inl ?_)
  · have h1 := hD.bd j hj
    unfold capS at h1 ⊢
    rw [hin]
    by_cases e : j = i
    · subst e; simp [h0]
    · simpa [e] using h1
  · exact List.length_filter_lt_length_iff_exists.2 ⟨(i : Int), inL_iff.1 hi, by simp⟩
theorem few_pos {b : BookD} (hv : VBook b) {s : List Int} {f : Nat → Int} (h : FewOk b s f) {i : Nat} (hn : i < b.cons.length) (hi : inL s i = true) : 1 ≤ f i := by
  have h1 := h.del.bd i hn
  refine Classical.byContradiction fun hlt => few_less hv h.min h.del hi (by omega)
theorem few_out {b : BookD} {s : List Int} {f : Nat → Int} (h : FewOk b s f) {i : Nat} (hn : i < b.cons.length) (hi : inL s i = false) : f i = 0 := by
  have h1 := h.del.bd i hn
  unfold capS at h1
  rw [hi] at h1
  simp at h1
  omega
theorem ind_sum {n : Nat} : ∀ {e : List Int} {fr : Int}, 0 ≤ fr → Ext n e fr → sumR n (fun i => if inL e i then 1 else 0) = e.length
  | [], fr, _, _ => by
    have : (fun i : Nat => if inL [] i = true then (1 : Int) else 0) = fun _ => 0 := by funext i; simp [inL]
    rw [this, sumR_zero]; rfl
  | x :: e, fr, h0, hx => by
    obtain ⟨h1, h2, h3⟩ := ext_cons.1 hx
    have ih := ind_sum (by omega) h3
    have hno : ∀ i : Nat, x = (i : Int) → inL e i = false := fun i hi => by
      cases c : inL e i
      · rfl
      · have := ((ext_iff.1 h3).1 _ (inL_iff.1 c)).1
        omega
    have e1 : (fun i : Nat => if inL (x :: e) i = true then (1 : Int) else 0) = fun i : Nat => (if x = (i : Int) then 1 else 0) + (if inL e i = true then 1 else 0) := by
      funext i
      by_cases c : x = (i : Int)
      · have hc : inL (x :: e) i = true := inL_iff.2 (by rw [c]; exact List.mem_cons_self)
        rw [if_pos hc, if_pos c, hno i c]; rfl
      · have hc : inL (x :: e) i = inL e i := by
          cases d : inL e i
          · cases d2 : inL (x :: e) i
            · rfl
            · rcases List.mem_cons.1 (inL_iff.1 d2) with h | h
              · exact absurd h.symm c
              · rw [inL_iff.2 h] at d; cases d
          · exact inL_iff.2 (List.mem_cons_of_mem _ (inL_iff.1 d))
        rw [hc, if_neg c]; omega
    rw [e1, sumR_add, sumR_one (by omega) h2, ih]
    simp; omega
theorem dig_len (f : Nat → Int) (n : Nat) : (digL f n).length = n := by simp [digL]
theorem few_above {b : BookD} (hv : VBook b) {s : List Int} {f : Nat → Int} (h : FewOk b s f) : aboveN (digL f b.cons.length) = s.length := by
  have h1 : aboveN (digL f b.cons.length) = sumR b.cons.length (fun i => pos1 (f i)) := by
    unfold aboveN sumR digL
    rw [List.map_map]
    rfl
  rw [h1, ← ind_sum (Int.le_refl 0) h.min.ext]
  refine sumR_congr fun i hi => ?_
  unfold pos1
  cases c : inL s i
  · rw [few_out h hi c]; rfl
  · have := few_pos hv h hi c
    rw [if_pos (by omega)]; rfl
theorem few_deliv {b : BookD} (hv : VBook b) {s : List Int} {f : Nat → Int} (h : FewOk b s f) : delivB b (digL f b.cons.length) = true := by
  unfold delivB
  rw [Bool.and_eq_true]
  refine ⟨listed_iff.2 ⟨dig_len f _, fun k hk => ?_⟩, decide_eq_true ?_⟩
  · rw [dig_len] at hk
    rw [digL_at hk]
    have h1 := h.del.bd k hk
    have h2 := hv.num k hk
    unfold capS at h1
    split at h1
    · exact h1
    · omega
  · rw [netL_congr (g := f) fun i hi => digL_at hi]
    exact List.map_congr_left fun v _ => h.del.net v
end Go.Proofs.Ytilhflfbbfeakaa
end
