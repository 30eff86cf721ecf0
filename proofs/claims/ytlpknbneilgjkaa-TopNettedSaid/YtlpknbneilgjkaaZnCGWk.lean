/- Joined texts: RRrp, RFa, Pb, Tc, Bg, Bi, CGWk. -/
import Derived.Test.YtlpknbneilgjkaaZnRGMp
import Derived.Test.YtlpknbneilgjkaaZnRDh
import Derived.Test.YtlpknbneilgjkaaZnGTs
import Derived.Test.YtlpknbneilgjkaaZnRFr
import Derived.Test.YtlpknbneilgjkaaZnRDg
import Derived.Test.YtlpknbneilgjkaaZnRDb
import Derived.Test.YtlpknbneilgjkaaZnRGs
import Derived.Test.YtlpknbneilgjkaaZnBc
section
namespace Go.Proofs.Ytlpknbneilgjkaa.R
open Go Go.RowKit Go.Tl
set_option linter.unusedVariables false
set_option linter.unusedSimpArgs false
set_option maxRecDepth 100000
set_option maxHeartbeats 4000000
attribute [local irreducible] AWP AWL AOp PV LV AWT AWE
def pos1 (x : Int) : Int := if 0 < x then 1 else 0
def aboveN (l : List Int) : Int := sumI (l.map pos1)
theorem above_take {l : List Int} {k : Nat} (h : k < l.length) : aboveN (l.take (k + 1)) = aboveN (l.take k) + pos1 (l.getD k 0) := by
  unfold aboveN
  rw [List.take_succ_eq_append_getElem h, List.map_append, sumI_append]
  simp [sumI, List.getD_eq_getElem?_getD, h]
theorem above_bd : ∀ l : List Int, 0 ≤ aboveN l ∧ aboveN l ≤ l.length
  | [] => by simp [aboveN, sumI]
  | x :: xs => by
    have ih := above_bd xs
    have e : aboveN (x :: xs) = pos1 x + aboveN xs := rfl
    have h1 : 0 ≤ pos1 x ∧ pos1 x ≤ 1 := by unfold pos1; split <;> omega
    rw [e, List.length_cons]
    omega
def delivB (b : BookD) (l : List Int) : Bool := listedB b l && decide (netL b (fun i => l.getD i 0) = netL b (numF b))
theorem isdel_q (cp' : Bool) (b : BookD) (l : List Int) (hv : VBook b) (hl : l.length ≤ 1000) {r : Bool} (e : delivB b l = r) : PCall Try.prog 29 [bookA false b, .t (intsT cp' l)] (fun x => x = .tup [intA (if r = true then aboveN l else 0), boolA r]) := by
  have hlen := hv.len
  have hh := hv.houses
  refine acall_of_awp T0 Try.func29 rfl rfl rfl ?_
  repeat (first | refine awp_seq ?_ | refine awp_region_lit rfl ?_)
  refine awl_hw (by first | exact wt_none rfl | exact wt_some' rfl rfl rfl rfl (by first | rfl | assumption | exact dT (by omega) | exact dF (by omega))) (st_box rfl rfl (by first | rfl | assumption) (by first | assumption | (simp only [cellsA]; rfl)) rfl rfl ?_)
  intro g2
  repeat (first | refine awp_seq ?_ | refine awp_region_lit rfl ?_ | ((first | (show AWL _ _ _ (⟨_, .move _, _, _, _, _⟩ :: _) _ _ _; refine awl_pw ?w (pv_move rfl rfl) rfl rfl ?_) | (show AWL _ _ _ (⟨_, .assign _, _, _, _, _⟩ :: _) _ _ _; refine awl_pw ?w (pv_assign rfl rfl) rfl rfl ?_) | (show AWL _ _ _ (⟨_, .load _ _, _, _, _, _⟩ :: _) _ _ _; refine awl_lw ?w (lv_cla T0 rfl rfl rfl (by solve | repeat' constructor) rfl) rfl rfl rfl ?_)); case w => first | exact wt_none rfl | exact wt_some' rfl rfl rfl rfl (by first | rfl | assumption | exact dT (by omega) | exact dF (by omega))) | refine awl_nil ?_)
  unfold delivB at e
  cases e1 : listedB b l
  · rw [e1] at e
    subst e
    refine awl_hw (by first | exact wt_none rfl | exact wt_some' rfl rfl rfl rfl (by first | rfl | assumption | exact dT (by omega) | exact dF (by omega))) (st_call T0 (rlisted_q hl (by omega) e1) rfl rfl rfl rfl (by first | exact callee_lit | exact callee_v | exact callee_fn | assumption) (by solve | repeat' constructor) (by first | rfl | assumption) rfl ?_)
    rintro _ rfl
    repeat (first | refine awp_seq ?_ | refine awp_region_lit rfl ?_ | refine awp_ret ?_ | with_reducible refine then_n ?_ | with_reducible refine then_r ?_ | refine awp_cond_t rfl (by first | rfl | assumption | exact dT (by omega)) ?_ | ((first | (show AWL _ _ _ (⟨_, .assign _, _, _, _, _⟩ :: _) _ _ _; refine awl_pw ?w (pv_assign rfl rfl) rfl rfl ?_) | (show AWL _ _ _ (⟨_, .unOp .not _ _, _, _, _, _⟩ :: _) _ _ _; refine awl_pw ?w (pv_not rfl rfl) rfl rfl ?_)); case w => first | exact wt_none rfl | exact wt_some' rfl rfl rfl rfl (by first | rfl | assumption | exact dT (by omega) | exact dF (by omega))) | refine awl_nil ?_)
    exact body_p (.cons rfl (.cons rfl .nil)) rfl
  have hll := (listed_iff.1 e1).1
  rw [e1] at e
  refine awl_hw (by first | exact wt_none rfl | exact wt_some' rfl rfl rfl rfl (by first | rfl | assumption | exact dT (by omega) | exact dF (by omega))) (st_call T0 (rlisted_q hl (by omega) e1) rfl rfl rfl rfl (by first | exact callee_lit | exact callee_v | exact callee_fn | assumption) (by solve | repeat' constructor) (by first | rfl | assumption) rfl ?_)
  rintro _ rfl
  have hml : (b.cons.map (·.num)).length = b.cons.length := by simp
  have hmb : ∀ i, i < (b.cons.map (·.num)).length → -1000000 ≤ (b.cons.map (·.num)).getD i 0 ∧ (b.cons.map (·.num)).getD i 0 ≤ 1000000 := fun i hi => by
    rw [nums_at (by omega)]
    have := hv.num i (by omega)
    unfold numF
    omega
  have hlb := listed_bd hv e1
  repeat (first | refine awp_seq ?_ | refine awp_skip ?_ | with_reducible refine then_n ?_ | refine awp_cond_f rfl (by first | rfl | assumption | exact dF (by omega)) ?_ | ((first | (show AWL _ _ _ (⟨_, .unOp .not _ _, _, _, _, _⟩ :: _) _ _ _; refine awl_pw ?w (pv_not rfl rfl) rfl rfl ?_)); case w => first | exact wt_none rfl | exact wt_some' rfl rfl rfl rfl (by first | rfl | assumption | exact dT (by omega) | exact dF (by omega))) | refine awl_nil ?_)
  refine awp_tree T0 [(0, 1), (1, 1), (4, 1), (5, 0), (2, 2), (3, 2), (6, 3), (7, 0), (8, 0)] (.op 0 1 (.op 1 1 (.op 4 1 (.op 5 0 (.op 2 2 (.op 3 2 (.op 6 3 (.op 7 0 (.op 8 0 .stop))))))))) _ rfl (by kernel_rfl) (SubH.refl _) ?_
  refine awt_lo rfl (wt_none rfl) (lv_cla T0 rfl rfl rfl (by solve | repeat' constructor) rfl) rfl rfl rfl ?_
  refine awt_lo rfl (wt_none rfl) (lv_cla T0 rfl rfl rfl (by solve | repeat' constructor) rfl) rfl rfl rfl ?_
  refine awt_lo rfl (wt_none rfl) (lv_cla T0 rfl rfl rfl (by solve | repeat' constructor) rfl) rfl rfl rfl ?_
  refine awt_po rfl (wt_none rfl) (pv_move rfl rfl) rfl rfl ?_
  refine awt_h (hm := []) rfl (wt_none rfl) (by solve | repeat' constructor) rfl (st_call T0 (all_p false b (by omega)) rfl rfl rfl rfl (by first | exact callee_lit | exact callee_v | exact callee_fn | assumption) (by solve | repeat' constructor) (by first | rfl | assumption) rfl ?_)
  rintro _ rfl
  refine awt_h (hm := []) rfl (wt_none rfl) (by solve | repeat' constructor) rfl (st_call T0 (net_p b true (b.cons.map (·.num)) hv hml hmb) rfl rfl rfl rfl (by first | exact callee_lit | exact callee_v | exact callee_fn | assumption) (by solve | repeat' constructor) (by first | rfl | assumption) rfl ?_)
  rintro _ rfl
  refine awt_s (md := fun _ => True) rfl (wt_none rfl) (st_call T0 (net_p b cp' l hv hll (fun i hi => hlb i (by omega))) rfl rfl rfl rfl (by first | exact callee_lit | exact callee_v | exact callee_fn | assumption) (by solve | repeat' constructor) (by first | rfl | assumption) rfl ?_)
  rintro _ rfl
  refine awe_p rfl (wt_none rfl) (pv_assign rfl rfl) rfl rfl ?_
  refine awe_p rfl (wt_none rfl) (pv_assign rfl rfl) rfl rfl ?_
  refine awe_end ?_
  have hneq : netL b (fun i => (b.cons.map (·.num)).getD i 0) = netL b (numF b) := netL_congr fun i hi => nums_at hi
  rw [hneq]
  have hn1 : (netL b (numF b)).length = b.houses.toNat := netL_len
  have hn2 : (netL b fun i => l.getD i 0).length = b.houses.toNat := netL_len
  generalize netL b (numF b) = W at *
  generalize (netL b fun i => l.getD i 0) = H at *
  repeat (first | refine awp_seq ?_ | refine awp_block ?_ | refine awp_region_lit rfl ?_ | ((first | (show AWL _ _ _ (⟨_, .assign _, _, _, _, _⟩ :: _) _ _ _; refine awl_pw ?w (pv_assign rfl rfl) rfl rfl ?_)); case w => first | exact wt_none rfl | exact wt_some' rfl rfl rfl rfl (by first | rfl | assumption | exact dT (by omega) | exact dF (by omega))) | refine awl_nil ?_)
  refine awp_loop (fun m s h => ∃ (k : Nat), (k : Int) ≤ b.houses ∧ m = b.houses.toNat - k ∧ (∀ j, j < k → W.getD j 0 = H.getD j 0) ∧ s = [(1, .t (intsT cp' l)), (2, .v (ptrV g2)), (6, .t (intsT true W)), (7, .t (intsT true H)), (8, intA k)] ∧ h = [refB g2 b]) ?_ ⟨0, by omega, rfl, (fun j hj => absurd hj (Nat.not_lt_zero _)), rfl, rfl⟩ (by first | ((repeat' (first | exact True.intro | refine ⟨rfl, ?_⟩)); all_goals fail) | fail) (by solve | repeat' constructor)
  rintro m s h ⟨k, hk, rfl, hall, rfl, rfl⟩
  by_cases hlt : (k : Int) < b.houses
  · have hkw : k < W.length := by omega
    have hkh : k < H.length := by omega
    by_cases c : W.getD k 0 = H.getD k 0
    · have d2 : decide (W.getD k 0 ≠ H.getD k 0) = false := decide_eq_false (by simpa using c)
      repeat (first | refine awp_seq ?_ | refine awp_block ?_ | refine awp_region_lit rfl ?_ | refine awp_skip ?_ | with_reducible refine then_n ?_ | refine awp_cond_t rfl (by first | rfl | assumption | exact dT (by omega)) ?_ | ((first | (show AWL _ _ _ (⟨_, .move _, _, _, _, _⟩ :: _) _ _ _; refine awl_pw ?w (pv_move rfl rfl) rfl rfl ?_) | (show AWL _ _ _ (⟨_, .load _ _, _, _, _, _⟩ :: _) _ _ _; refine awl_lw ?w (lv_cl1 T0 rfl rfl rfl (by solve | repeat' constructor) (by first | rfl | assumption)) rfl rfl rfl ?_) | (show AWL _ _ _ (⟨_, .fieldAddr _ _ _, _, _, _, _⟩ :: _) _ _ _; refine awl_pw ?w (pv_fa T0 rfl rfl rfl (by simp; rfl)) rfl rfl ?_) | (show AWL _ _ _ (⟨_, .binOp .lss _ _ _ _, _, _, _, _⟩ :: _) _ _ _; refine awl_pw ?w (pv_lss rfl rfl rfl) rfl rfl ?_)); case w => first | exact wt_none rfl | exact wt_some' rfl rfl rfl rfl (by first | rfl | assumption | exact dT (by omega) | exact dF (by omega))) | refine awl_nil ?_)
      refine awp_tree T0 [(0, 0), (1, 0), (2, 0), (3, 1), (4, 0), (5, 0), (6, 0), (7, 1), (8, 0)] (.op 0 0 (.op 1 0 (.op 2 0 (.op 3 1 (.op 4 0 (.op 5 0 (.op 6 0 (.op 7 1 (.op 8 0 .stop))))))))) _ rfl (by kernel_rfl) (SubH.refl _) ?_
      refine awt_po rfl (wt_none rfl) (pv_move rfl rfl) rfl rfl ?_
      refine awt_po rfl (wt_none rfl) (pv_move rfl rfl) rfl rfl ?_
      refine awt_po rfl (wt_none rfl) (pv_ix_t T0 rfl rfl rfl rfl (by omega) (by first | exact Int.toNat_natCast _ | rfl)) rfl rfl ?_
      refine awt_lo rfl (wt_none rfl) (lv_elt_sc T0 rfl rfl rfl rfl) rfl rfl rfl ?_
      refine awt_po rfl (wt_none rfl) (pv_move rfl rfl) rfl rfl ?_
      refine awt_po rfl (wt_none rfl) (pv_move rfl rfl) rfl rfl ?_
      refine awt_po rfl (wt_none rfl) (pv_ix_t T0 rfl rfl rfl rfl (by omega) (by first | exact Int.toNat_natCast _ | rfl)) rfl rfl ?_
      refine awt_lo rfl (wt_none rfl) (lv_elt_sc T0 rfl rfl rfl rfl) rfl rfl rfl ?_
      refine awt_po rfl (wt_none rfl) (pv_neq rfl rfl rfl) rfl rfl ?_
      refine awt_end ?_
      repeat (first | refine awp_region_lit rfl ?_ | refine awp_skip ?_ | with_reducible refine then_n ?_ | refine awp_cond_f rfl (by first | rfl | assumption | exact dF (by omega)) ?_ | ((first | (show AWL _ _ _ (⟨_, .move _, _, _, _, _⟩ :: _) _ _ _; refine awl_pw ?w (pv_move rfl rfl) rfl rfl ?_) | (show AWL _ _ _ (⟨_, .assign _, _, _, _, _⟩ :: _) _ _ _; refine awl_pw ?w (pv_assign rfl rfl) rfl rfl ?_) | (show AWL _ _ _ (⟨_, .binOp .add _ _ _ _, _, _, _, _⟩ :: _) _ _ _; refine awl_pw ?w (pv_add rfl rfl rfl (by first | assumption | exact wr64 (by omega))) rfl rfl ?_)); case w => first | exact wt_none rfl | exact wt_some' rfl rfl rfl rfl (by first | rfl | assumption | exact dT (by omega) | exact dF (by omega))) | refine awl_nil ?_)
      refine rnd_n _ _ _ ?_ ⟨k + 1, by omega, rfl, fun j hj => ?_, rfl, rfl⟩ (by first | ((repeat' (first | exact True.intro | refine ⟨rfl, ?_⟩)); all_goals fail) | fail) (by solve | repeat' constructor)
      · omega
      · by_cases e : j = k
        · subst e; exact c
        · exact hall j (by omega)
    · have d2 : decide (W.getD k 0 ≠ H.getD k 0) = true := decide_eq_true c
      rw [decide_eq_false (fun e => c (by rw [e]))] at e
      subst e
      repeat (first | refine awp_seq ?_ | refine awp_block ?_ | refine awp_region_lit rfl ?_ | refine awp_skip ?_ | with_reducible refine then_n ?_ | refine awp_cond_t rfl (by first | rfl | assumption | exact dT (by omega)) ?_ | ((first | (show AWL _ _ _ (⟨_, .move _, _, _, _, _⟩ :: _) _ _ _; refine awl_pw ?w (pv_move rfl rfl) rfl rfl ?_) | (show AWL _ _ _ (⟨_, .load _ _, _, _, _, _⟩ :: _) _ _ _; refine awl_lw ?w (lv_cl1 T0 rfl rfl rfl (by solve | repeat' constructor) (by first | rfl | assumption)) rfl rfl rfl ?_) | (show AWL _ _ _ (⟨_, .fieldAddr _ _ _, _, _, _, _⟩ :: _) _ _ _; refine awl_pw ?w (pv_fa T0 rfl rfl rfl (by simp; rfl)) rfl rfl ?_) | (show AWL _ _ _ (⟨_, .binOp .lss _ _ _ _, _, _, _, _⟩ :: _) _ _ _; refine awl_pw ?w (pv_lss rfl rfl rfl) rfl rfl ?_)); case w => first | exact wt_none rfl | exact wt_some' rfl rfl rfl rfl (by first | rfl | assumption | exact dT (by omega) | exact dF (by omega))) | refine awl_nil ?_)
      refine awp_tree T0 [(0, 0), (1, 0), (2, 0), (3, 1), (4, 0), (5, 0), (6, 0), (7, 1), (8, 0)] (.op 0 0 (.op 1 0 (.op 2 0 (.op 3 1 (.op 4 0 (.op 5 0 (.op 6 0 (.op 7 1 (.op 8 0 .stop))))))))) _ rfl (by kernel_rfl) (SubH.refl _) ?_
      refine awt_po rfl (wt_none rfl) (pv_move rfl rfl) rfl rfl ?_
      refine awt_po rfl (wt_none rfl) (pv_move rfl rfl) rfl rfl ?_
      refine awt_po rfl (wt_none rfl) (pv_ix_t T0 rfl rfl rfl rfl (by omega) (by first | exact Int.toNat_natCast _ | rfl)) rfl rfl ?_
      refine awt_lo rfl (wt_none rfl) (lv_elt_sc T0 rfl rfl rfl rfl) rfl rfl rfl ?_
      refine awt_po rfl (wt_none rfl) (pv_move rfl rfl) rfl rfl ?_
      refine awt_po rfl (wt_none rfl) (pv_move rfl rfl) rfl rfl ?_
      refine awt_po rfl (wt_none rfl) (pv_ix_t T0 rfl rfl rfl rfl (by omega) (by first | exact Int.toNat_natCast _ | rfl)) rfl rfl ?_
      refine awt_lo rfl (wt_none rfl) (lv_elt_sc T0 rfl rfl rfl rfl) rfl rfl rfl ?_
      refine awt_po rfl (wt_none rfl) (pv_neq rfl rfl rfl) rfl rfl ?_
      refine awt_end ?_
      repeat (first | refine awp_seq ?_ | refine awp_region_lit rfl ?_ | refine awp_ret ?_ | with_reducible refine then_n ?_ | with_reducible refine then_r ?_ | with_reducible refine blk_r ?_ | refine rnd_r ?_ | refine awp_cond_t rfl (by first | rfl | assumption | exact dT (by omega)) ?_ | ((first | (show AWL _ _ _ (⟨_, .assign _, _, _, _, _⟩ :: _) _ _ _; refine awl_pw ?w (pv_assign rfl rfl) rfl rfl ?_)); case w => first | exact wt_none rfl | exact wt_some' rfl rfl rfl rfl (by first | rfl | assumption | exact dT (by omega) | exact dF (by omega))) | refine awl_nil ?_)
      exact body_p (.cons rfl (.cons rfl .nil)) rfl
  have hWH : H = W := List.ext_getElem (by omega) fun j h1 h2 => by
    have := hall j (by omega)
    simpa [List.getD_eq_getElem?_getD, h1, h2] using this.symm
  rw [decide_eq_true hWH] at e
  subst e
  repeat (first | refine awp_seq ?_ | refine awp_block ?_ | refine awp_region_lit rfl ?_ | refine awp_exit ?_ | with_reducible refine then_n ?_ | refine awp_cond_f rfl (by first | rfl | assumption | exact dF (by omega)) ?_ | ((first | (show AWL _ _ _ (⟨_, .move _, _, _, _, _⟩ :: _) _ _ _; refine awl_pw ?w (pv_move rfl rfl) rfl rfl ?_) | (show AWL _ _ _ (⟨_, .assign _, _, _, _, _⟩ :: _) _ _ _; refine awl_pw ?w (pv_assign rfl rfl) rfl rfl ?_) | (show AWL _ _ _ (⟨_, .load _ _, _, _, _, _⟩ :: _) _ _ _; refine awl_lw ?w (lv_cl1 T0 rfl rfl rfl (by solve | repeat' constructor) (by first | rfl | assumption)) rfl rfl rfl ?_) | (show AWL _ _ _ (⟨_, .fieldAddr _ _ _, _, _, _, _⟩ :: _) _ _ _; refine awl_pw ?w (pv_fa T0 rfl rfl rfl (by simp; rfl)) rfl rfl ?_) | (show AWL _ _ _ (⟨_, .binOp .lss _ _ _ _, _, _, _, _⟩ :: _) _ _ _; refine awl_pw ?w (pv_lss rfl rfl rfl) rfl rfl ?_)); case w => first | exact wt_none rfl | exact wt_some' rfl rfl rfl rfl (by first | rfl | assumption | exact dT (by omega) | exact dF (by omega))) | refine awl_nil ?_)
  refine awp_loop (fun m s h => ∃ (k : Nat), k ≤ l.length ∧ m = l.length - k ∧ s = [(1, .t (intsT cp' l)), (9, intA (aboveN (l.take k))), (10, intA k)] ∧ h = []) ?_ ⟨0, by omega, rfl, rfl, rfl⟩ (by first | ((repeat' (first | exact True.intro | refine ⟨rfl, ?_⟩)); all_goals fail) | fail) (by solve | repeat' constructor)
  rintro m s h ⟨k, hk, rfl, rfl, rfl⟩
  by_cases hlt2 : k < l.length
  · have hb := above_bd (l.take k)
    rw [List.length_take, Nat.min_eq_left hk] at hb
    have hst := above_take hlt2
    by_cases c : 0 < l.getD k 0
    · have d1 : decide (0 < l.getD k 0) = true := decide_eq_true c
      have hp1 : pos1 (l.getD k 0) = 1 := if_pos c
      rw [hp1] at hst
      repeat (first | refine awp_seq ?_ | refine awp_block ?_ | refine awp_region_lit rfl ?_ | refine awp_skip ?_ | with_reducible refine then_n ?_ | refine awp_cond_t rfl (by first | rfl | assumption | exact dT (by omega)) ?_ | ((first | (show AWL _ _ _ (⟨_, .move _, _, _, _, _⟩ :: _) _ _ _; refine awl_pw ?w (pv_move rfl rfl) rfl rfl ?_) | (show AWL _ _ _ (⟨_, .assign _, _, _, _, _⟩ :: _) _ _ _; refine awl_pw ?w (pv_assign rfl rfl) rfl rfl ?_) | (show AWL _ _ _ (⟨_, .load _ _, _, _, _, _⟩ :: _) _ _ _; refine awl_lw ?w (lv_elt_sc T0 rfl rfl rfl rfl) rfl rfl rfl ?_) | (show AWL _ _ _ (⟨_, .indexAddr _ _ _, _, _, _, _⟩ :: _) _ _ _; refine awl_pw ?w (pv_ix_t T0 rfl rfl rfl rfl (by omega) (by first | exact Int.toNat_natCast _ | rfl)) rfl rfl ?_) | (show AWL _ _ _ (⟨_, .binOp .add _ _ _ _, _, _, _, _⟩ :: _) _ _ _; refine awl_pw ?w (pv_add rfl rfl rfl (by first | assumption | exact wr64 (by omega))) rfl rfl ?_) | (show AWL _ _ _ (⟨_, .binOp .lss _ _ _ _, _, _, _, _⟩ :: _) _ _ _; refine awl_pw ?w (pv_lss rfl rfl rfl) rfl rfl ?_) | (show AWL _ _ _ (⟨_, .binOp .gtr _ _ _ _, _, _, _, _⟩ :: _) _ _ _; refine awl_pw ?w (pv_gtr rfl rfl rfl) rfl rfl ?_) | (show AWL _ _ _ (⟨_, .call ⟨.builtin .len, _, _⟩, _, _, _, _⟩ :: _) _ _ _; refine awl_pw ?w (pv_len_t T0 rfl rfl rfl) rfl rfl ?_)); case w => first | exact wt_none rfl | exact wt_some' rfl rfl rfl rfl (by first | rfl | assumption | exact dT (by omega) | exact dF (by omega))) | refine awl_nil ?_)
      rw [← hst]
      refine rnd_n _ _ _ ?_ ⟨k + 1, hlt2, rfl, rfl, rfl⟩ (by first | ((repeat' (first | exact True.intro | refine ⟨rfl, ?_⟩)); all_goals fail) | fail) (by solve | repeat' constructor)
      omega
    · have d1 : decide (0 < l.getD k 0) = false := decide_eq_false c
      have hp1 : pos1 (l.getD k 0) = 0 := if_neg c
      rw [hp1, Int.add_zero] at hst
      repeat (first | refine awp_seq ?_ | refine awp_block ?_ | refine awp_region_lit rfl ?_ | refine awp_skip ?_ | with_reducible refine then_n ?_ | refine awp_cond_t rfl (by first | rfl | assumption | exact dT (by omega)) ?_ | refine awp_cond_f rfl (by first | rfl | assumption | exact dF (by omega)) ?_ | ((first | (show AWL _ _ _ (⟨_, .move _, _, _, _, _⟩ :: _) _ _ _; refine awl_pw ?w (pv_move rfl rfl) rfl rfl ?_) | (show AWL _ _ _ (⟨_, .assign _, _, _, _, _⟩ :: _) _ _ _; refine awl_pw ?w (pv_assign rfl rfl) rfl rfl ?_) | (show AWL _ _ _ (⟨_, .load _ _, _, _, _, _⟩ :: _) _ _ _; refine awl_lw ?w (lv_elt_sc T0 rfl rfl rfl rfl) rfl rfl rfl ?_) | (show AWL _ _ _ (⟨_, .indexAddr _ _ _, _, _, _, _⟩ :: _) _ _ _; refine awl_pw ?w (pv_ix_t T0 rfl rfl rfl rfl (by omega) (by first | exact Int.toNat_natCast _ | rfl)) rfl rfl ?_) | (show AWL _ _ _ (⟨_, .binOp .add _ _ _ _, _, _, _, _⟩ :: _) _ _ _; refine awl_pw ?w (pv_add rfl rfl rfl (by first | assumption | exact wr64 (by omega))) rfl rfl ?_) | (show AWL _ _ _ (⟨_, .binOp .lss _ _ _ _, _, _, _, _⟩ :: _) _ _ _; refine awl_pw ?w (pv_lss rfl rfl rfl) rfl rfl ?_) | (show AWL _ _ _ (⟨_, .binOp .gtr _ _ _ _, _, _, _, _⟩ :: _) _ _ _; refine awl_pw ?w (pv_gtr rfl rfl rfl) rfl rfl ?_) | (show AWL _ _ _ (⟨_, .call ⟨.builtin .len, _, _⟩, _, _, _, _⟩ :: _) _ _ _; refine awl_pw ?w (pv_len_t T0 rfl rfl rfl) rfl rfl ?_)); case w => first | exact wt_none rfl | exact wt_some' rfl rfl rfl rfl (by first | rfl | assumption | exact dT (by omega) | exact dF (by omega))) | refine awl_nil ?_)
      rw [← hst]
      refine rnd_n _ _ _ ?_ ⟨k + 1, hlt2, rfl, rfl, rfl⟩ (by first | ((repeat' (first | exact True.intro | refine ⟨rfl, ?_⟩)); all_goals fail) | fail) (by solve | repeat' constructor)
      omega
  obtain rfl : k = l.length := by omega
  rw [List.take_length]
  repeat (first | refine awp_seq ?_ | refine awp_region_lit rfl ?_ | refine awp_exit ?_ | refine awp_ret ?_ | with_reducible refine then_n ?_ | refine awp_cond_f rfl (by first | rfl | assumption | exact dF (by omega)) ?_ | ((first | (show AWL _ _ _ (⟨_, .move _, _, _, _, _⟩ :: _) _ _ _; refine awl_pw ?w (pv_move rfl rfl) rfl rfl ?_) | (show AWL _ _ _ (⟨_, .assign _, _, _, _, _⟩ :: _) _ _ _; refine awl_pw ?w (pv_assign rfl rfl) rfl rfl ?_) | (show AWL _ _ _ (⟨_, .binOp .lss _ _ _ _, _, _, _, _⟩ :: _) _ _ _; refine awl_pw ?w (pv_lss rfl rfl rfl) rfl rfl ?_) | (show AWL _ _ _ (⟨_, .call ⟨.builtin .len, _, _⟩, _, _, _, _⟩ :: _) _ _ _; refine awl_pw ?w (pv_len_t T0 rfl rfl rfl) rfl rfl ?_)); case w => first | exact wt_none rfl | exact wt_some' rfl rfl rfl rfl (by first | rfl | assumption | exact dT (by omega) | exact dF (by omega))) | refine awl_nil ?_)
  exact body_p (.cons rfl (.cons rfl .nil)) rfl
section
variable {b : BookD} {l : List Int} {g3 g4 : Nat} {cp c1 : Bool} {many ab : Int}
end
end Go.Proofs.Ytlpknbneilgjkaa.R
end
section
namespace Go.Proofs.Ytlpknbneilgjkaa.R
open Go Go.RowKit Go.Tl
set_option linter.unusedVariables false
set_option linter.unusedSimpArgs false
theorem dig_len (f : Nat → Int) (n : Nat) : (digL f n).length = n := by simp [digL]
theorem few_deliv {b : BookD} (hv : VBook b) {s : List Int} {f : Nat → Int} (h : FewOk b s f) : delivB b (digL f b.cons.length) = true := by
  unfold delivB
  rw [Bool.and_eq_true]
  refine ⟨listed_iff.2 ⟨dig_len f _, fun k hk => ?_⟩, decide_eq_true ?_⟩
  · rw [dig_len] at hk
    rw [digL_at hk]
    have h1 := h.del.bd k hk
    have h2 := hv.num k hk
    unfold capS at h1
    split at h1
    · exact h1
    · omega
  · rw [netL_congr (g := f) fun i hi => digL_at hi]
    exact List.map_congr_left fun v _ => h.del.net v
end Go.Proofs.Ytlpknbneilgjkaa.R
end
section
namespace Go.Proofs.Ytlpknbneilgjkaa
open Go Go.RowKit Go.Tl
set_option linter.unusedVariables false
/-- the dues of the contracts -/
def dueOf (c : R.ConD) : S.DueD := ⟨c.frm, c.to, c.num⟩
def duesOf (b : R.BookD) : List S.DueD := b.cons.map dueOf
theorem dues_len (b : R.BookD) : (duesOf b).length = b.cons.length := by simp [duesOf]
theorem dues_at (b : R.BookD) (k : Nat) : (duesOf b).getD k default = dueOf (b.cons.getD k default) := by
  simp only [duesOf, List.getD_eq_getElem?_getD, List.getElem?_map]
  cases b.cons[k]? <;> rfl
theorem vdue_of {b : R.BookD} (hv : R.VBook b) (hh : b.houses ≤ 4) (hl : b.cons.length ≤ 6) (hn : ∀ k, k < b.cons.length → (b.cons.getD k default).num ≤ 4) : S.VDue b.houses.toNat (duesOf b) := by
  have h1 := hv.houses
  refine ⟨by omega, by rw [dues_len]; exact hl, fun k hk => ?_, fun k hk => ?_, fun k hk => ?_, fun k hk => ?_⟩
  all_goals rw [dues_len] at hk; rw [dues_at]
  · have := hv.frm k hk
    show 0 ≤ (b.cons.getD k default).frm ∧ (b.cons.getD k default).frm < (b.houses.toNat : Int)
    omega
  · have := hv.to k hk
    show 0 ≤ (b.cons.getD k default).to ∧ (b.cons.getD k default).to < (b.houses.toNat : Int)
    omega
  · exact hv.ne k hk
  · exact ⟨(hv.num k hk).1, hn k hk⟩
theorem acc_dues (b : R.BookD) (f : Nat → Int) (h : Nat) : ∀ k, S.accS (duesOf b) f k h = R.accN b.cons f k h
  | 0 => rfl
  | k + 1 => by
    simp only [S.accS, R.accN, acc_dues b f h k, dues_at, dueOf]
    split <;> split <;> omega
theorem ow_dues (b : R.BookD) : ∀ k, S.owS (duesOf b) k = R.sumR k (R.numF b)
  | 0 => rfl
  | k + 1 => by
    rw [R.sumR_succ, ← ow_dues b k]
    simp only [S.owS, dues_at, dueOf]
    rfl
theorem rem_ow (ds : List S.DueD) (f : Nat → Int) : ∀ (m i : Nat), S.remS ds f m i + R.sumR (i + m) f + S.owS ds i = S.owS ds (i + m) + R.sumR i f
  | 0, i => by simp [S.remS]; omega
  | m + 1, i => by
    have ih := rem_ow ds f m (i + 1)
    rw [show i + 1 + m = i + (m + 1) by omega] at ih
    have e := R.sumR_succ i f
    simp only [S.remS, S.owS] at ih ⊢
    omega
/-- of numbers that are not below 0 and add up to 0 -/
theorem sum_zero {f : Nat → Int} : ∀ {n : Nat}, (∀ q, q < n → 0 ≤ f q) → R.sumR n f = 0 → ∀ q, q < n → f q = 0
  | 0, _, _, q, hq => absurd hq (Nat.not_lt_zero _)
  | n + 1, h, hs, q, hq => by
    rw [R.sumR_succ] at hs
    have h1 : 0 ≤ R.sumR n f := by
      clear hs hq
      induction n with
      | zero => exact Int.le_refl 0
      | succ n ih => rw [R.sumR_succ]; have := ih (fun q hq => h q (by omega)); have := h n (by omega); omega
    have h2 := h n (by omega)
    rcases Nat.lt_succ_iff_lt_or_eq.1 hq with c | c
    · exact sum_zero (n := n) (fun q hq => h q (by omega)) (by omega) q c
    · subst c; omega
theorem ok_off {b : R.BookD} (hv : R.VBook b) {f : Nat → Int} (hb : ∀ j, j < b.cons.length → 0 ≤ f j ∧ f j ≤ (b.cons.getD j default).num) (ho : S.OkD b.houses.toNat (duesOf b) f) : R.OffF b (R.numF b) f := by
  refine ⟨hb, fun h => ?_⟩
  by_cases c : h < b.houses.toNat
  · refine sum_zero (f := fun h => R.accN b.cons f b.cons.length h) (fun q hq => ?_) (R.acc_sum hv f b.cons.length (Nat.le_refl _)) h c
    have := ho q hq
    rw [acc_dues, dues_len] at this
    exact this
  · have := hv.houses
    exact R.acc_far hv f (by omega) _ (Nat.le_refl _)
theorem off_ok {b : R.BookD} {f : Nat → Int} (h : R.OffF b (R.numF b) f) : S.OkD b.houses.toNat (duesOf b) f := fun q _ => by
  rw [acc_dues, dues_len, h.net q]
  exact Int.le_refl _
structure BestOff (b : R.BookD) (o : List Int) (f : Nat → Int) (B : Int) : Prop where
  off : R.offB b (R.digL f b.cons.length) = true
  sum : R.sumI (R.digL f b.cons.length) = R.sumI o
  bought : B = R.sumR b.cons.length (R.numF b) - R.sumI o
theorem best_off {b : R.BookD} (hv : R.VBook b) {o hs : List Int} (hG : R.isGr b o hs) {f : Nat → Int} {B : Int} (hB : S.BestD b.houses.toNat (duesOf b) f B) : BestOff b o f B := by
  have gf := R.gr_facts hv hG
  have hoff := (R.offB_iff hv).1 gf.isoff
  have hbd : ∀ j, j < b.cons.length → 0 ≤ f j ∧ f j ≤ (b.cons.getD j default).num := fun j hj => by
    have := hB.bd j (by rw [dues_len]; exact hj)
    rw [dues_at] at this
    exact this
  have hF := ok_off hv hbd hB.ok
  have hdl : (R.digL f b.cons.length).length = b.cons.length := by simp [R.digL]
  have h1 : R.offB b (R.digL f b.cons.length) = true := (R.offB_iff hv).2 ⟨hdl, R.off_congr (fun i hi => (R.digL_at hi).symm) hF⟩
  have h2 := R.gr_off_le hv gf h1
  have h3 := hB.min (fun i => o.getD i 0) (fun j hj => by
    rw [dues_len] at hj
    rw [dues_at]
    exact hoff.2.bd j hj) (off_ok hoff.2)
  have h4 := rem_ow (duesOf b) (fun i => o.getD i 0) (duesOf b).length 0
  have h5 := rem_ow (duesOf b) f (duesOf b).length 0
  have h6 := hB.sum
  have e1 : R.sumI o = R.sumR b.cons.length (fun i => o.getD i 0) := by rw [R.sumI_getD, hoff.1]
  have e2 : R.sumI (R.digL f b.cons.length) = R.sumR b.cons.length f := rfl
  have e3 := ow_dues b (duesOf b).length
  have e4 : R.sumR 0 f = 0 := rfl
  have e5 : R.sumR 0 (fun i => o.getD i 0) = 0 := rfl
  have e6 : S.owS (duesOf b) 0 = 0 := rfl
  rw [Nat.zero_add] at h4 h5
  rw [dues_len] at *
  exact ⟨h1, by omega, by omega⟩
/- the example -/
def bN : R.BookD := ⟨3, [⟨0, 1, 2, 1⟩, ⟨1, 2, 3, 1⟩, ⟨2, 0, 4, 1⟩]⟩
def dN : List S.DueD := [⟨0, 1, 2⟩, ⟨1, 2, 3⟩, ⟨2, 0, 4⟩]
theorem bN_f : R.faultN bN = 0 := by decide
theorem dN_v : S.VDue 3 dN := ⟨by decide, by decide, by decide, by decide, by decide, by decide⟩
theorem bN_bd {o : List Int} (ho : o.length = bN.cons.length ∧ R.OffF bN (R.numF bN) (fun i => o.getD i 0)) : ∀ x ∈ o, -1000000000 ≤ x ∧ x ≤ 1000000000 := fun x hx => by
  obtain ⟨h1, h2⟩ := ho
  obtain ⟨k, hk, rfl⟩ := List.getElem_of_mem hx
  have h3 := h2.bd k (by omega)
  have h4 := (R.vbook bN_f).num k (by omega)
  have h5 : o.getD k 0 = o[k] := by simp [List.getD_eq_getElem?_getD, hk]
  have h6 : 0 ≤ o.getD k 0 ∧ o.getD k 0 ≤ (bN.cons.getD k default).num := h3
  omega
theorem bN_off {o h : List Int} (hG : R.isGr bN o h) : R.sumI o = 6 := by
  have hv := R.vbook bN_f
  have g := R.gr_facts hv hG
  have h1 := R.gr_off_le hv g (l := [2, 2, 2]) (by decide)
  have e1 : R.sumI [2, 2, 2] = 6 := rfl
  obtain ⟨h2, h3⟩ := (R.offB_iff hv).1 g.isoff
  match o, h2 with
  | [a, b, c], _ =>
    have b0 : 0 ≤ a ∧ a ≤ 2 := h3.bd 0 (by decide)
    have n0 : R.accN bN.cons (fun i => [a, b, c].getD i 0) 3 0 = 0 := h3.net 0
    have n1 : R.accN bN.cons (fun i => [a, b, c].getD i 0) 3 1 = 0 := h3.net 1
    simp [R.accN, bN] at n0 n1
    have e2 : R.sumI [a, b, c] = a + b + c := by simp [R.sumI]; omega
    omega
theorem dN_best {f : Nat → Int} {B : Int} (h : S.BestD 3 dN f B) : B = 3 := by
  have h1 := h.min (fun _ => 2) (by decide) (by intro q hq; have : q = 0 ∨ q = 1 ∨ q = 2 := by omega
                                                rcases this with rfl | rfl | rfl <;> decide)
  have e1 : S.remS dN (fun _ => 2) dN.length 0 = 3 := by decide
  have b0 : 0 ≤ f 0 ∧ f 0 ≤ 2 := h.bd 0 (by decide)
  have n0 : 0 ≤ S.accS dN f 3 0 := h.ok 0 (by decide)
  have n1 : 0 ≤ S.accS dN f 3 1 := h.ok 1 (by decide)
  have n2 : 0 ≤ S.accS dN f 3 2 := h.ok 2 (by decide)
  have hs : S.remS dN f 3 0 = B := h.sum
  simp [S.accS, dN] at n0 n1 n2
  simp [S.remS, dN] at hs
  omega
end Go.Proofs.Ytlpknbneilgjkaa
end
section
namespace Go.Tl
open Go Go.RowKit
set_option linter.unusedVariables false
set_option linter.unusedSimpArgs false
section
variable {P : Program} {N : Nat} {o : Oper} {md : Nat → Prop} {s : Slots} {h h1 : List Ent} {K : Slots → List Ent → Prop}
end
/-- an operation (its kind as in a tree) and what follows; or what may come first otherwise -/
inductive PC where
  | stop
  | op (i k : Nat) (r : PC)
  | alt (a b : PC)
open Go.Proofs.Ytlpknbneilgjkaa
section
variable {P : Program} {ops : Array Oper} {Q : Exit → Act → World → Prop} {md : Region.Mode} {S : World → Prop} {ro : Option Nat}
def wpC (P : Program) (ops : Array Oper) (Q : Exit → Act → World → Prop) (S : World → Prop) : PC → Act → World → Prop
  | .stop, a, w => Q .normal a w
  | .op i 0 r, a, w => ∃ o v, ops[i]? = some o ∧ YieldsIf P ops (fun _ => True) o v a ∧ wpC P ops Q S r (a.put o.dst v) w
  | .op i 1 r, a, w => ∃ o v, ops[i]? = some o ∧ YieldsIf P ops S o v a ∧ wpC P ops Q S r (a.put o.dst v) w
  | .op i _ r, a, w => wpOX P ops Q i (fun a' w' => S w' ∧ wpC P ops Q S r a' w') a w
  | .alt a b, x, w => wpC P ops Q S a x w ∧ wpC P ops Q S b x w
def szC : PC → Nat
  | .stop => 1
  | .op _ _ r => szC r + 1
  | .alt a b => szC a + szC b + 1
def headsC : PC → List Nat
  | .stop => []
  | .op i k _ => if k = 2 then [i] else []
  | .alt a b => headsC a ++ headsC b
/-- br: within a choice -/
def okC (md : Region.Mode) (ops : Array Oper) : PC → Bool → Nat → Array Bool → Bool
  | .stop, br, n, listed => !br && (n == 0) && (Region.ready md ops listed).isEmpty
  | .op i 0 r, br, n + 1, listed => !br && (Region.ready md ops listed).contains i && Region.free md ops listed i && okC md ops r false n (listed.setIfInBounds i true)
  | .op i 1 r, br, n + 1, listed => !br && (Region.ready md ops listed).contains i && Region.free md ops listed i && okC md ops r false n (listed.setIfInBounds i true)
  | .op i 2 r, br, n + 1, listed => (br || (Region.ready md ops listed == [i])) && okC md ops r false n (listed.setIfInBounds i true)
  | .alt a b, br, n, listed => (br || (!(Region.ready md ops listed).isEmpty && (Region.ready md ops listed).all (fun i => (headsC a ++ headsC b).contains i))) && okC md ops a true n listed && okC md ops b true n listed
  | _, _, _, _ => false
/-- what a choice asks -/
theorem altC (hs : Region.noSelect ops = true) : ∀ (t : PC) (n : Nat) (listed : Array Bool) (a : Act) (w : World), okC md ops t true (n + 1) listed = true → wpC P ops Q S t a w →
    ∀ i ∈ headsC t, ∃ r, okC md ops r false n (listed.setIfInBounds i true) = true ∧ wpOX P ops Q i (fun a' w' => S w' ∧ wpC P ops Q S r a' w') a w ∧ szC r < szC t := by
  intro t
  induction t with
  | stop => intro n listed a w hok; simp [okC] at hok
  | op i k r ih =>
    intro n listed a w hok h j hj
    match k with
    | 0 => simp [okC] at hok
    | 1 => simp [okC] at hok
    | 2 =>
      simp [headsC] at hj
      subst hj
      simp only [okC, Bool.true_or, Bool.true_and] at hok
      exact ⟨r, hok, h, by simp only [szC]; omega⟩
    | k + 3 => simp [okC] at hok
  | alt x y ihx ihy =>
    intro n listed a w hok h j hj
    simp only [okC, Bool.true_or, Bool.true_and, Bool.and_eq_true] at hok
    rcases List.mem_append.1 hj with hj | hj
    · obtain ⟨r, h1, h2, h3⟩ := ihx n listed a w hok.1 h.1 j hj
      exact ⟨r, h1, h2, by simp only [szC]; omega⟩
    · obtain ⟨r, h1, h2, h3⟩ := ihy n listed a w hok.2 h.2 j hj
      exact ⟨r, h1, h2, by simp only [szC]; omega⟩
theorem wpAX_of_C (hs : Region.noSelect ops = true) (hQ : ∀ c a d v w, Q (.panic c) (a.put d v) w → Q (.panic c) a w) : ∀ (m : Nat) (t : PC), szC t ≤ m → ∀ (n : Nat) (listed : Array Bool) (a : Act) (w : World), okC md ops t false n listed = true → Closed md ops listed → S w →
      wpC P ops Q S t a w → wpAX P md ops Q S (fun _ => true) n listed a w := by
  intro m
  induction m with
  | zero => intro t ht; cases t <;> simp only [szC] at ht <;> omega
  | succ m ih =>
    intro t ht n listed a w hok hcl hS h
    match t, n with
    | .stop, n =>
      simp only [okC, Bool.and_eq_true, beq_iff_eq, List.isEmpty_iff] at hok
      obtain ⟨⟨_, rfl⟩, hr⟩ := hok
      exact ⟨hr, h⟩
    | .op i k r, 0 =>
      match k with
      | 0 => simp [okC] at hok
      | 1 => simp [okC] at hok
      | 2 => simp [okC] at hok
      | k + 3 => simp [okC] at hok
    | .op i k r, n + 1 =>
      have hr : szC r ≤ m := by simp only [szC] at ht; omega
      match k with
      | 0 =>
        simp only [okC, Bool.and_eq_true] at hok
        obtain ⟨o, v, ho, hy, hk⟩ := h
        refine wpAX_first (T := fun _ => True) ho (Region.noSelect_spec hs) hQ (fun _ _ _ _ _ _ _ _ _ _ => trivial) n listed a w hcl (Region.free_spec ho hok.1.2) (by simpa using hok.1.1.2) hy trivial ?_
        exact ih r hr n _ _ w hok.2 (hcl.set (by simpa using hok.1.1.2)) hS hk
      | 1 =>
        simp only [okC, Bool.and_eq_true] at hok
        obtain ⟨o, v, ho, hy, hk⟩ := h
        refine wpAX_first (T := S) ho (Region.noSelect_spec hs) hQ (fun _ _ _ _ _ _ _ _ hSw hk => hk rfl hSw) n listed a w hcl (Region.free_spec ho hok.1.2) (by simpa using hok.1.1.2) hy hS ?_
        exact ih r hr n _ _ w hok.2 (hcl.set (by simpa using hok.1.1.2)) hS hk
      | 2 =>
        simp only [okC, Bool.false_or, Bool.and_eq_true, beq_iff_eq] at hok
        have hrd := hok.1
        refine ⟨fun h0 => (by rw [hrd] at h0; cases h0), fun j hj => ?_⟩
        have hj' := hj
        rw [hrd, List.mem_singleton] at hj'
        subst hj'
        exact wpOX_mono (fun a' w' h' => ⟨fun _ _ => h'.1, ih r hr n _ _ w' hok.2 (hcl.set hj) h'.1 h'.2⟩) h
      | k + 3 => simp [okC] at hok
    | .alt x y, 0 =>
      exfalso
      simp only [okC, Bool.and_eq_true] at hok
      have key : ∀ z : PC, okC md ops z true 0 listed = true → False := fun z => by
        induction z with
        | stop => intro h; simp [okC] at h
        | op i k r _ =>
          intro h
          match k with
          | 0 => simp [okC] at h
          | 1 => simp [okC] at h
          | 2 => simp [okC] at h
          | k + 3 => simp [okC] at h
        | alt p q ihp _ =>
          intro h
          simp only [okC, Bool.and_eq_true] at h
          exact ihp h.1.2
      exact key x hok.1.2
    | .alt x y, n + 1 =>
      have hok' : okC md ops (.alt x y) true (n + 1) listed = true := by
        simp only [okC, Bool.and_eq_true] at hok ⊢
        exact ⟨⟨by simp, hok.1.2⟩, hok.2⟩
      have hhd : ∀ i ∈ Region.ready md ops listed, i ∈ headsC (.alt x y) := fun i hi => by
        simp only [okC, Bool.false_or, Bool.and_eq_true, List.all_eq_true] at hok
        exact List.contains_iff_mem.1 (hok.1.1.2 i hi)
      have hA := altC (P := P) (Q := Q) (S := S) hs (.alt x y) n listed a w hok' h
      refine ⟨fun h0 => ?_, fun j hj => ?_⟩
      · exfalso
        simp only [okC, Bool.false_or, Bool.and_eq_true] at hok
        have := hok.1.1.1
        rw [h0] at this
        cases this
      · obtain ⟨r, h1, h2, h3⟩ := hA j (hhd j hj)
        exact wpOX_mono (fun a' w' h' => ⟨fun _ _ => h'.1, ih r (by simp only [szC] at ht h3; omega) n _ _ w' h1 (hcl.set hj) h'.1 h'.2⟩) h2
end
def AWC (P : Program) (N : Nat) (ops : Array Oper) (so : Slots) (ks : List Ent) (t : PC) (Q : Exit → Slots → List Ent → Prop) (s : Slots) (h : List Ent) : Prop :=
  ∀ (B : Base) (w0 : World) (S0 : Nat → Prop) (w : World) (S : Nat → Prop) (a : Act), Sim B N w S s h a → SRel w0 S0 so a.tmps → HRel w0 S0 ks → (∀ b, S0 b → b < w0.heap.size) → w0.heap.size ≤ w.heap.size → (∀ b, S0 b → S b) →
    (∀ b, Kept S0 ks b → w.heap[b]? = w0.heap[b]?) → wpC P ops (postR B N Q) (fun w' => ∀ b, Kept S0 ks b → w'.heap[b]? = w0.heap[b]?) t a w
section
variable {P : Program} {N : Nat} {ops : Array Oper} {so s : Slots} {ks h : List Ent} {Q : Exit → Slots → List Ent → Prop} {r : PC} {i d : Nat} {o : Oper}
theorem awc_end (H : Q .normal s h) : AWC P N ops so ks .stop Q s h := fun B w0 S0 w S a hs _ _ _ _ _ _ => ⟨rfl, S, s, h, H, hs⟩
theorem awc_po {y : AV} (ho : ops[i]? = some o) (hw : Wt ops o s) (H : PV P o so y) (hd : o.dst = some d) (hN : Nat.blt d N = true) (K : AWC P N ops ((d, y) :: so) ks r Q ((d, y) :: s) h) : AWC P N ops so ks (.op i 0 r) Q s h := fun B w0 S0 w S a hs hso hks hl hsz hS hk => by
  obtain ⟨v, hrun, hv⟩ := H w0 S0 a hso
  have hv' := hv.mono hS (fun b hb => hk b (.inl hb))
  refine ⟨o, v, ho, .inl ⟨hw.wanted hs.slots, fun w' _ => hrun w'⟩, ?_⟩
  rw [hd]
  exact K B w0 S0 w S _ (hs.put hv' (blt_lt hN)) (hso.put hv (by rw [hs.size]; exact blt_lt hN)) hks hl hsz hS hk
theorem awc_pn {y : AV} {so' : Slots} (ho : ops[i]? = some o) (hw : Wt ops o s) (H : PV P o s y) (hd : o.dst = some d) (hN : Nat.blt d N = true) (hso' : ∀ e x, look so' e = some x → look so e = some x) (hn : look so' d = none) (K : AWC P N ops so' ks r Q ((d, y) :: s) h) : AWC P N ops so ks (.op i 0 r) Q s h := fun B w0 S0 w S a hs hso hks hl hsz hS hk => by
  obtain ⟨v, hrun, hv⟩ := H w S a hs.slots
  refine ⟨o, v, ho, .inl ⟨hw.wanted hs.slots, fun w' _ => hrun w'⟩, ?_⟩
  rw [hd]
  have hso2 : SRel w0 S0 so' a.tmps := fun e x hx => hso e x (hso' e x hx)
  exact K B w0 S0 w S _ (hs.put hv (blt_lt hN)) (hso2.put0 (fun d' e => by cases e; exact hn)) hks hl hsz hS hk
theorem awc_n1 {y : AV} (ho : ops[i]? = some o) (hw : Wt ops o s) (H : PV P o s y) (hd : o.dst = some d) (hN : Nat.blt d N = true) (hn : look so d = none) (K : AWC P N ops so ks r Q ((d, y) :: s) h) : AWC P N ops so ks (.op i 0 r) Q s h := awc_pn ho hw H hd hN (fun _ _ h => h) hn K
theorem awc_lo {y y' : AV} {e : Option Ent} (ho : ops[i]? = some o) (hw : Wt ops o s) (H : LV P o so ks e y) (hy : y = y') (hd : o.dst = some d) (hN : Nat.blt d N = true) (K : AWC P N ops ((d, y') :: so) ks r Q ((d, y') :: s) h) : AWC P N ops so ks (.op i 1 r) Q s h := fun B w0 S0 w S a hs hso hks hl hsz hS hk => by
  subst hy
  obtain ⟨v, b, hrun, hv, hb⟩ := H w0 S0 a hso hks
  have hkb : Kept S0 ks b := by
    rcases hb with h1 | ⟨e0, _, h2, h3⟩
    · exact .inl h1
    · exact .inr ⟨e0, h2, h3⟩
  have hv' := hv.mono hS (fun b hb => hk b (.inl hb))
  refine ⟨o, v, ho, .inl ⟨hw.wanted hs.slots, fun w' hw' => hrun w' (hw' b hkb)⟩, ?_⟩
  rw [hd]
  exact K B w0 S0 w S _ (hs.put hv' (blt_lt hN)) (hso.put hv (by rw [hs.size]; exact blt_lt hN)) hks hl hsz hS hk
theorem awc_h {hm : List Ent} (ho : ops[i]? = some o) (hw : Wt ops o s) (hsub : SubH (hm ++ ks) h) (hn : (match o.dst with | some d => look so d | none => none) = none) (H : AOp P N o (Own hm) s h (fun s' h' => AWC P N ops so ks r Q s' h')) : AWC P N ops so ks (.op i 2 r) Q s h := fun B w0 S0 w S a hs hso hks hl hsz hS hk => by
  have hr := hsub.heap hs.heap
  have hkeep : ∀ b, Kept S0 ks b → b < w.heap.size ∧ ¬ Own hm b := fun b hb => by
    rcases hb with h1 | ⟨e, he, h1⟩
    · exact ⟨hs.lt b (hS b h1), fun ⟨e, he, h2⟩ => hr.off e (List.mem_append_left _ he) b h2 (hS b h1)⟩
    · exact ⟨(hr.ent e (List.mem_append_right _ he)).lt b h1, fun ⟨e', he', h2⟩ => (List.pairwise_append.1 hr.sep).2.2 e' he' e he b h2 h1⟩
  refine wpOX_of_if ho ?_
  rw [if_pos (hw.wanted hs.slots)]
  refine H B w S a hs _ _ (fun v w' S' s' h' hK hs' hu => ?_)
  have hk' : ∀ b, Kept S0 ks b → w'.heap[b]? = w0.heap[b]? := fun b hb => (hu.keep b (hkeep b hb).1 (hkeep b hb).2).trans (hk b hb)
  refine ⟨hk', hK B w0 S0 w' S' _ hs' (hso.put0 (fun d e => ?_)) hks hl (Nat.le_trans hsz hu.size) (fun b hb => hu.stab b (hS b hb)) hk'⟩
  rw [e] at hn
  exact hn
theorem awc_alt {p q : PC} (H1 : AWC P N ops so ks p Q s h) (H2 : AWC P N ops so ks q Q s h) : AWC P N ops so ks (.alt p q) Q s h := fun B w0 S0 w S a hs hso hks hl hsz hS hk => ⟨H1 B w0 S0 w S a hs hso hks hl hsz hS hk, H2 B w0 S0 w S a hs hso hks hl hsz hS hk⟩
theorem wpIn_C (S : World → Prop) (t : PC) {id : Nat} {a : Act} {w : World} {Q : Exit → Act → World → Prop} {ro : Option Nat} (hm : P.follows .mixedOrders = true) (hs : Region.noSelect ops = true) (hok : okC .any ops t false ops.size (Array.replicate ops.size false) = true) (hn : ops.toList.all ndO = true)
    (hQ : ∀ c a d v w, Q (.panic c) (a.put d v) w → Q (.panic c) a w) (hS : S w.drew) (h : wpC P ops Q S t a w.drew) : (Code.region id ops true).wpIn (FR ro) 0 P Q a w :=
  wpIn_region_any hm (wpAX.anyIn hn _ _ _ _ (wpAX_of_C (P := P) (Q := Q) (S := S) hs hQ (szC t) t (Nat.le_refl _) _ _ a w.drew hok Closed.start hS h))
theorem awp_C (T : TT P) {ro : Option Nat} {id : Nat} (t : PC) (ks : List Ent) (hn : ops.toList.all ndO = true) (hs0 : Region.noSelect ops = true) (hok : okC .any ops t false ops.size (Array.replicate ops.size false) = true) (hks : SubH ks h) (H : AWC P N ops s ks t Q s h) : AWP P N ro (.region id ops true) Q s h := fun B w S a hs => by
  have hd := hs.drew
  refine Code.wpIn_mono postR_post (wpIn_C (fun w' => ∀ b, Kept S ks b → w'.heap[b]? = w.drew.heap[b]?) t T.mixed hs0 hok hn (fun _ _ _ _ _ h => (by cases h.1)) (fun _ _ => rfl) ?_)
  exact H B w.drew S w.drew S a hd hd.slots (hks.heap hd.heap) hd.lt (Nat.le_refl _) (fun _ h => h) (fun _ _ => rfl)
end
end Go.Tl
end
section
namespace Go.Proofs.Ytlpknbneilgjkaa.S
open Go Go.RowKit Go.Tl
set_option linter.unusedVariables false
set_option linter.unusedSimpArgs false
set_option maxRecDepth 100000
set_option maxHeartbeats 4000000
attribute [local irreducible] AWP AWL AOp PV LV AWT AWE AWC
theorem list5_p (cp : Bool) (l : List Int) (hl : l.length ≤ 1000) : PCall Try.prog 105 [.t (intsT cp l)] (fun r => r = .t (intsT true l)) := by
  refine acall_of_awp T0 Try.func105 rfl rfl rfl ?_
  repeat (first | refine awp_seq ?_ | refine awp_region_lit rfl ?_ | (show AWL _ _ _ (⟨_, .assign _, _, _, _, _⟩ :: _) _ _ _; refine awl_pw (wt_none rfl) (pv_assign rfl rfl) rfl rfl ?_) | refine awl_nil ?_)
  refine awl_hw (wt_none rfl) (st_bsl T0 rfl rfl rfl rfl rfl rcA rfl rfl rfl rfl (by simp only [List.map_cons, List.map_nil, cellsA]; rfl) ?_)
  intro g
  repeat (first | (show AWL _ _ _ (⟨_, .move _, _, _, _, _⟩ :: _) _ _ _; refine awl_pw (wt_none rfl) (pv_move rfl rfl) rfl rfl ?_))
  refine awl_hw (wt_none rfl) (st_appt T0 rfl rfl rfl rfl rfl rfl rfl rfl rfl rcA (by intro k hk u hu; simp at hu; subst hu; rfl) (rfl : ([] : List (List AV)).length = 0) (by first | omega | (simp; omega)) (fun _ _ => trivial) rfl ?_)
  intro a c p
  repeat (first | refine awp_ret ?_ | (show AWL _ _ _ (⟨_, .assign _, _, _, _, _⟩ :: _) _ _ _; refine awl_pw (wt_none rfl) (pv_assign rfl rfl) rfl rfl ?_) | refine awl_nil ?_)
  simp only [List.nil_append, List.length_nil, Nat.zero_add]
  have hrows : ((List.range l.length).map fun k => List.map AV.ofTr [Tr.sc (.int .i64 (l.getD k 0))]) = l.map intRow := by
    refine List.ext_getElem (by simp) fun k h1 h2 => ?_
    simp at h1 h2
    simp [List.getD_eq_getElem?_getD, h1, AV.ofTr, intRow]
  rw [hrows]
  refine bodyQ_ghost (ghost_freeze (d := 2) (v := .slice a l.length c) (E := 3) (sz := 1) (n := l.length) (rows := l.map intRow) (fun q => [.sc (.int .i64 (l.getD q 0))]) rcA rfl (List.length_map _) (intRows_tree l)) ?_
  exact body_p (.cons rfl .nil) rfl
section
variable {g1 g2 : Nat} {cs cl cd : Bool} {hn : Nat} {ds : List DueD}
theorem bg_1 {ops : Array Oper} (h : regF Try.f63 1 = some ops) :
    AWP Try.prog Try.f63.ntmps none (.region 1 ops true) (cutQ (fun s h => ∃ g3, s = [(3, .v (ptrV g3)), (1, .v (ptrV g1)), (2, .v (ptrV g2))] ∧ h = [.cl g1 87 (regC cs hn), .cl g2 106 [intA 0, nilA, nilA, nilA], .cl g3 106 (regC true hn)]))
      [(1, .v (ptrV g1)), (2, .v (ptrV g2))] [.cl g1 87 (regC cs hn), .cl g2 106 [intA 0, nilA, nilA, nilA]] := by
  cases h
  refine awp_tree T0 [(0, 0), (1, 1), (2, 0), (3, 1), (4, 2), (5, 0), (6, 2), (7, 3)] (.op 0 0 (.op 1 1 (.op 2 0 (.op 3 1 (.fork 4 (.op 5 0 (.op 6 2 (.op 7 3 .stop))) 6 (.op 4 2 (.op 5 0 (.op 7 3 .stop)))))))) [.cl g1 _ _] rfl (by kernel_rfl) rcA ?_
  refine awt_po rfl (wt_none rfl) (pv_fa T0 rfl rfl rfl (by simp; rfl)) rfl rfl ?_
  refine awt_lo rfl (wt_none rfl) (lv_cl1 T0 rfl rfl rfl rcA raA) rfl rfl rfl ?_
  refine awt_po rfl (wt_none rfl) (pv_fa T0 rfl rfl rfl (by simp; rfl)) rfl rfl ?_
  refine awt_lo rfl (wt_none rfl) (lv_cl1 T0 rfl rfl rfl rcA raA) rfl rfl rfl ?_
  refine awt_fork ?_ ?_
  · skip
    refine awt_h (hm := []) rfl (wt_none rfl) rcA rfl (st_call T0 (list5_p cs [0] (by simp)) rfl rfl rfl rfl (by first | exact callee_lit | exact callee_v | exact callee_fn | assumption) rcA raA rfl ?_)
    rintro _ rfl
    refine awt_n1 rfl (wt_none rfl) (pv_build T0 rfl rfl rfl scA (by first | ((repeat' (first | exact BParts.nil | apply BParts.cons | rfl)); all_goals fail) | fail) (by first | ((repeat' (first | exact FillA.nil | exact Sp.done | apply FillA.cons | apply Sp.put | apply Sp.skip | (simp only [cellsA]; rfl) | rfl)); all_goals fail) | fail)) rfl rfl rfl ?_
    refine awt_h (hm := []) rfl (wt_none rfl) rcA rfl (st_alloc T0 rfl rfl rfl rfl scA ?_)
    intro g3
    refine awt_s (md := fun _ => True) rfl (wt_none rfl) (st_store T0 rfl rfl rfl rfl rfl (by first | assumption | (simp only [cellsA]; rfl)) rfl rfl rfl rcA rcA trivial ?_)
    refine awe_end ?_
    exact cut_n ⟨_, rfl, rfl⟩ ssA rcA
  · skip
    refine awt_h (hm := []) rfl (wt_none rfl) rcA rfl (st_alloc T0 rfl rfl rfl rfl scA ?_)
    intro g3
    refine awt_h (hm := []) rfl (wt_none rfl) rcA rfl (st_call T0 (list5_p cs [0] (by simp)) rfl rfl rfl rfl (by first | exact callee_lit | exact callee_v | exact callee_fn | assumption) rcA raA rfl ?_)
    rintro _ rfl
    refine awt_n1 rfl (wt_none rfl) (pv_build T0 rfl rfl rfl scA (by first | ((repeat' (first | exact BParts.nil | apply BParts.cons | rfl)); all_goals fail) | fail) (by first | ((repeat' (first | exact FillA.nil | exact Sp.done | apply FillA.cons | apply Sp.put | apply Sp.skip | (simp only [cellsA]; rfl) | rfl)); all_goals fail) | fail)) rfl rfl rfl ?_
    refine awt_s (md := fun _ => True) rfl (wt_none rfl) (st_store T0 rfl rfl rfl rfl rfl (by first | assumption | (simp only [cellsA]; rfl)) rfl rfl rfl rcA rcA trivial ?_)
    refine awe_end ?_
    exact cut_n ⟨_, rfl, rfl⟩ ssA rcA
end
theorem reg_p (cs : Bool) (hn : Nat) : PCall Try.prog 63 [regA cs hn] (fun r => r = regA true hn) := by
  refine acall_of_awp T0 Try.func63 rfl rfl rfl ?_
  repeat (first | refine awp_seq ?_ | refine awp_region_lit rfl ?_)
  refine awl_hw (wt_none rfl) (st_box rfl rfl raA (by first | assumption | (simp only [cellsA]; rfl)) rfl rfl ?_)
  intro g1
  skip
  refine awl_hw (wt_none rfl) (st_alloc T0 rfl rfl rfl rfl scA ?_)
  intro g2
  repeat (first | refine awp_seq ?_ | refine awl_nil ?_)
  refine awp_cut _ (awp_weak ssA rcA (bg_1 (g1 := g1) (g2 := g2) (cs := cs) (hn := hn) rfl)) ?_
  rintro s h ⟨g3, rfl, rfl⟩
  repeat (first | refine awp_seq ?_ | refine awp_block ?_ | refine awp_region_lit rfl ?_ | (show AWL _ _ _ (⟨_, .assign _, _, _, _, _⟩ :: _) _ _ _; refine awl_pw (wt_none rfl) (pv_assign rfl rfl) rfl rfl ?_) | refine awl_nil ?_)
  refine awp_loop (fun m s h => m = 0 ∧ s = [(1, .v (ptrV g1)), (2, .v (ptrV g2)), (3, .v (ptrV g3)), (4, intA 0)] ∧ h = [.cl g1 87 (regC cs hn), .cl g2 106 [intA 0, nilA, nilA, nilA], .cl g3 106 (regC true hn)]) ?_ ⟨rfl, rfl, rfl⟩ ssA rcA
  rintro m s h ⟨rfl, rfl, rfl⟩
  repeat (first | refine awp_seq ?_ | refine awp_block ?_ | refine awp_region_lit rfl ?_ | refine awp_exit ?_ | with_reducible refine then_n ?_ | refine awp_cond_f rfl (by first | rfl | assumption | exact dF (by omega)) ?_ | (show AWL _ _ _ (⟨_, .move _, _, _, _, _⟩ :: _) _ _ _; refine awl_pw (wt_none rfl) (pv_move rfl rfl) rfl rfl ?_) | (show AWL _ _ _ (⟨_, .assign _, _, _, _, _⟩ :: _) _ _ _; refine awl_pw (wt_none rfl) (pv_assign rfl rfl) rfl rfl ?_) | (show AWL _ _ _ (⟨_, .load _ _, _, _, _, _⟩ :: _) _ _ _; refine awl_lw (wt_none rfl) (lv_cl1 T0 rfl rfl rfl rcA raA) rfl rfl rfl ?_) | (show AWL _ _ _ (⟨_, .fieldAddr _ _ _, _, _, _, _⟩ :: _) _ _ _; refine awl_pw (wt_none rfl) (pv_fa T0 rfl rfl rfl (by simp; rfl)) rfl rfl ?_) | (show AWL _ _ _ (⟨_, .binOp .lss _ _ _ _, _, _, _, _⟩ :: _) _ _ _; refine awl_pw (wt_none rfl) (pv_lss rfl rfl rfl) rfl rfl ?_) | (show AWL _ _ _ (⟨_, .call ⟨.builtin .len, _, _⟩, _, _, _, _⟩ :: _) _ _ _; refine awl_pw (wt_none rfl) (pv_len_v T0 rfl rfl rfl) rfl rfl ?_) | refine awl_nil ?_)
  refine awp_loop (fun m s h => m = 0 ∧ s = [(1, .v (ptrV g1)), (2, .v (ptrV g2)), (3, .v (ptrV g3)), (6, intA 0)] ∧ h = [.cl g1 87 (regC cs hn), .cl g2 106 [intA 0, nilA, nilA, nilA], .cl g3 106 (regC true hn)]) ?_ ⟨rfl, rfl, rfl⟩ ssA rcA
  rintro m s h ⟨rfl, rfl, rfl⟩
  repeat (first | refine awp_seq ?_ | refine awp_region_lit rfl ?_ | refine awp_exit ?_ | refine awp_ret ?_ | with_reducible refine then_n ?_ | refine awp_cond_f rfl (by first | rfl | assumption | exact dF (by omega)) ?_ | (show AWL _ _ _ (⟨_, .move _, _, _, _, _⟩ :: _) _ _ _; refine awl_pw (wt_none rfl) (pv_move rfl rfl) rfl rfl ?_) | (show AWL _ _ _ (⟨_, .load _ _, _, _, _, _⟩ :: _) _ _ _; refine awl_lw (wt_none rfl) (lv_cl1 T0 rfl rfl rfl rcA raA) rfl rfl rfl ?_) | (show AWL _ _ _ (⟨_, .load _ _, _, _, _, _⟩ :: _) _ _ _; refine awl_lw (wt_none rfl) (lv_cla T0 rfl rfl rfl rcA rfl) rfl rfl rfl ?_) | (show AWL _ _ _ (⟨_, .fieldAddr _ _ _, _, _, _, _⟩ :: _) _ _ _; refine awl_pw (wt_none rfl) (pv_fa T0 rfl rfl rfl (by simp; rfl)) rfl rfl ?_) | (show AWL _ _ _ (⟨_, .binOp .lss _ _ _ _, _, _, _, _⟩ :: _) _ _ _; refine awl_pw (wt_none rfl) (pv_lss rfl rfl rfl) rfl rfl ?_) | (show AWL _ _ _ (⟨_, .call ⟨.builtin .len, _, _⟩, _, _, _, _⟩ :: _) _ _ _; refine awl_pw (wt_none rfl) (pv_len_v T0 rfl rfl rfl) rfl rfl ?_) | (show AWL _ _ _ (⟨_, .store _ _ _, _, _, _, _⟩ :: _) _ _ _; refine awl_hw (wt_none rfl) (st_store T0 rfl rfl rfl rfl rfl (by first | assumption | (simp only [cellsA]; rfl)) rfl rfl rfl rcA rcA trivial ?_)) | refine awl_nil ?_)
  exact body_p (res_cell rfl rfl rcA rfl rfl rfl .nil) rfl
theorem offRows_tree (n : Nat) : ∀ k, k < n → ((List.range n).map fun k => List.map AV.ofTr [Tr.sc (.bool false)]).getD k [] = ((fun _ => [Tr.sc (.bool false)]) k).map AV.ofTr := fun k hk => by
  simp [List.getD_eq_getElem?_getD, hk]
section
variable {g1 g2 g3 : Nat} {cs cl cd : Bool} {hn k n cc : Nat} {ds : List DueD} {a : Option Addr} {rows : List (List AV)} {e2 : Ent}
theorem bg_l1 (hb : hn ≤ 1000) {ops : Array Oper} (h : regF Try.f26 1 = some ops) :
    AWP Try.prog Try.f26.ntmps none (.region 1 ops true) (cutQ (fun s h => ∃ g3 a c, s = [(3, .v (ptrV g3)), (1, .v (ptrV g1)), (2, .v (ptrV g2))] ∧ h = [.cl g1 91 (ledC cs cl cd hn ds), .cl g2 109 [intA 0, nilA, nilA, nilA, intA 0, nilA, nilA], .cl g3 109 [intA hn, .t (intsT true [0]), nilA, nilA, intA 0, .v (.slice a hn c), nilA], .rw (.slice a hn c) 4 1 ((List.range hn).map fun k => List.map AV.ofTr [Tr.sc (.bool false)])]))
      [(1, .v (ptrV g1)), (2, .v (ptrV g2))] [.cl g1 91 (ledC cs cl cd hn ds), .cl g2 109 [intA 0, nilA, nilA, nilA, intA 0, nilA, nilA], .rw (.slice none 0 0) 4 1 []] := by
  cases h
  have z : ([] : List (List AV)).length = 0 := rfl
  refine awp_C T0 (.op 0 0 (.op 1 1 (.op 3 0 (.op 4 1 (.op 5 0 (.op 6 1 (.alt (.op 2 2 (.alt (.op 7 2 (.op 8 0 (.op 9 2 (.op 10 2 .stop)))) (.op 9 2 (.op 7 2 (.op 8 0 (.op 10 2 .stop)))))) (.op 9 2 (.op 2 2 (.op 7 2 (.op 8 0 (.op 10 2 .stop)))))))))))) [.cl g1 _ _] (by kernel_rfl) (by kernel_rfl) (by kernel_rfl) rcA ?_
  refine awc_po rfl (wt_none rfl) (pv_fa T0 rfl rfl rfl (by simp; rfl)) rfl rfl ?_
  refine awc_lo rfl (wt_none rfl) (lv_clp T0 rfl rfl rfl rcA rfl rfl) rfl rfl rfl ?_
  refine awc_po rfl (wt_none rfl) (pv_fa T0 rfl rfl rfl (by simp; rfl)) rfl rfl ?_
  refine awc_lo rfl (wt_none rfl) (lv_cl1 T0 rfl rfl rfl rcA raA) rfl rfl rfl ?_
  refine awc_po rfl (wt_none rfl) (pv_fa T0 rfl rfl rfl (by simp; rfl)) rfl rfl ?_
  refine awc_lo rfl (wt_none rfl) (lv_cl1 T0 rfl rfl rfl rcA raA) rfl rfl rfl ?_
  refine awc_alt ?_ ?_
  · skip
    refine awc_h (hm := []) rfl (wt_none rfl) ?sub9 rfl (st_call T0 (reg_p cs hn) rfl rfl rfl rfl (by first | exact callee_lit | exact callee_v | exact callee_fn | assumption) rcA raA rfl ?_)
    case sub9 => exact rcA
    rintro _ rfl
    refine awc_alt ?_ ?_
    · skip
      refine awc_h (hm := _) rfl (wt_none rfl) ?sub14 rfl (st_appt_o (n := 0) T0 rfl rfl rfl rfl rfl rfl rfl rfl rfl rcA (fun k hk u hu => by simp at hu; subst hu; rfl) z (by omega) rfl ?_)
      case sub14 => exact rcA
      intro a12 c12 p12
      refine awc_n1 rfl (wt_none rfl) (pv_build T0 rfl rfl rfl scA (by first | ((repeat' (first | exact BParts.nil | apply BParts.cons | rfl)); all_goals fail) | fail) (by first | ((repeat' (first | exact FillA.nil | exact Sp.done | apply FillA.cons | apply Sp.put | apply Sp.skip | (simp only [cellsA]; rfl) | rfl)); all_goals fail) | fail)) rfl rfl rfl ?_
      refine awc_h (hm := []) rfl (wt_none rfl) ?sub18 rfl (st_alloc T0 rfl rfl rfl rfl scA ?_)
      case sub18 => exact rcA
      intro g3
      refine awc_h (hm := _) rfl (wt_none rfl) ?sub21 rfl (st_store_o T0 rfl rfl rfl rfl rfl (by first | assumption | (simp only [cellsA]; rfl)) rfl rfl rfl rcA rcA ?_)
      case sub21 => exact rcA
      refine awc_end ?_
      simp only [List.nil_append, Nat.zero_add]
      exact cut_n ⟨_, _, _, rfl, rfl⟩ ssA rcA
    refine awc_h (hm := []) rfl (wt_none rfl) ?sub26 rfl (st_alloc T0 rfl rfl rfl rfl scA ?_)
    case sub26 => exact rcA
    intro g3
    refine awc_h (hm := _) rfl (wt_none rfl) ?sub29 rfl (st_appt_o (n := 0) T0 rfl rfl rfl rfl rfl rfl rfl rfl rfl rcA (fun k hk u hu => by simp at hu; subst hu; rfl) z (by omega) rfl ?_)
    case sub29 => exact rcA
    intro a12 c12 p12
    refine awc_n1 rfl (wt_none rfl) (pv_build T0 rfl rfl rfl scA (by first | ((repeat' (first | exact BParts.nil | apply BParts.cons | rfl)); all_goals fail) | fail) (by first | ((repeat' (first | exact FillA.nil | exact Sp.done | apply FillA.cons | apply Sp.put | apply Sp.skip | (simp only [cellsA]; rfl) | rfl)); all_goals fail) | fail)) rfl rfl rfl ?_
    refine awc_h (hm := _) rfl (wt_none rfl) ?sub33 rfl (st_store_o T0 rfl rfl rfl rfl rfl (by first | assumption | (simp only [cellsA]; rfl)) rfl rfl rfl rcA rcA ?_)
    case sub33 => exact rcA
    refine awc_end ?_
    simp only [List.nil_append, Nat.zero_add]
    exact cut_n ⟨_, _, _, rfl, rfl⟩ ssA rcA
  refine awc_h (hm := []) rfl (wt_none rfl) ?sub38 rfl (st_alloc T0 rfl rfl rfl rfl scA ?_)
  case sub38 => exact rcA
  intro g3
  refine awc_h (hm := []) rfl (wt_none rfl) ?sub41 rfl (st_call T0 (reg_p cs hn) rfl rfl rfl rfl (by first | exact callee_lit | exact callee_v | exact callee_fn | assumption) rcA raA rfl ?_)
  case sub41 => exact rcA
  rintro _ rfl
  refine awc_h (hm := _) rfl (wt_none rfl) ?sub44 rfl (st_appt_o (n := 0) T0 rfl rfl rfl rfl rfl rfl rfl rfl rfl rcA (fun k hk u hu => by simp at hu; subst hu; rfl) z (by omega) rfl ?_)
  case sub44 => exact rcA
  intro a12 c12 p12
  refine awc_n1 rfl (wt_none rfl) (pv_build T0 rfl rfl rfl scA (by first | ((repeat' (first | exact BParts.nil | apply BParts.cons | rfl)); all_goals fail) | fail) (by first | ((repeat' (first | exact FillA.nil | exact Sp.done | apply FillA.cons | apply Sp.put | apply Sp.skip | (simp only [cellsA]; rfl) | rfl)); all_goals fail) | fail)) rfl rfl rfl ?_
  refine awc_h (hm := _) rfl (wt_none rfl) ?sub48 rfl (st_store_o T0 rfl rfl rfl rfl rfl (by first | assumption | (simp only [cellsA]; rfl)) rfl rfl rfl rcA rcA ?_)
  case sub48 => exact rcA
  refine awc_end ?_
  simp only [List.nil_append, Nat.zero_add]
  exact cut_n ⟨_, _, _, rfl, rfl⟩ ssA rcA
theorem bg_5 (hk : k < ds.length) (hn9 : n ≤ 1000) (hr : rows.length = n) {ops : Array Oper} (h : regF Try.f26 5 = some ops) :
    AWP Try.prog Try.f26.ntmps none (.region 5 ops true) (cutQ (fun s h => ∃ a cc, s = [(1, .v (ptrV g1)), (2, .v (ptrV g2)), (3, .v (ptrV g3)), (4, intA k)] ∧ h = [.cl g1 91 (ledC cs cl cd hn ds), e2, .cl g3 109 [intA hn, .t (intsT true [0]), nilA, nilA, intA 0, .t (offT true hn), .v (.slice a (n + 1) cc)], .rw (.slice a (n + 1) cc) 165 3 (rows ++ [dueRow (ds.getD k default)])]))
      [(1, .v (ptrV g1)), (2, .v (ptrV g2)), (3, .v (ptrV g3)), (4, intA k)] [.cl g1 91 (ledC cs cl cd hn ds), e2, .cl g3 109 [intA hn, .t (intsT true [0]), nilA, nilA, intA 0, .t (offT true hn), .v (.slice a n cc)], .rw (.slice a n cc) 165 3 rows] := by
  cases h
  unfold dueRow
  refine awp_treeN T0 [(0, 0), (1, 1), (2, 0), (3, 1), (4, 0), (5, 0), (6, 0), (7, 1), (8, 0), (9, 1), (10, 0), (11, 0), (12, 0), (13, 1), (14, 0), (15, 1), (16, 0), (17, 0), (18, 0), (19, 1), (20, 0), (21, 2), (22, 3), (23, 0), (24, 3)] (.op 0 0 (.op 1 1 (.op 2 0 (.op 3 1 (.op 4 0 (.op 5 0 (.op 6 0 (.op 7 1 (.op 8 0 (.op 9 1 (.op 10 0 (.op 11 0 (.op 12 0 (.op 13 1 (.op 14 0 (.op 15 1 (.op 16 0 (.op 17 0 (.op 18 0 (.op 19 1 (.op 20 0 (.op 21 2 (.op 22 3 (.op 23 0 (.op 24 3 .stop))))))))))))))))))))))))) [.cl g1 _ _, .cl g3 _ _] rfl (by kernel_rfl) rcA ?_
  refine awt_po rfl (wt_none rfl) (pv_fa T0 rfl rfl rfl (by simp; rfl)) rfl rfl ?_
  refine awt_lo rfl (wt_none rfl) (lv_cl1 T0 rfl rfl rfl rcA raA) rfl rfl rfl ?_
  refine awt_po rfl (wt_none rfl) (pv_fa T0 rfl rfl rfl (by simp; rfl)) rfl rfl ?_
  refine awt_lo rfl (wt_none rfl) (lv_cl1 T0 rfl rfl rfl rcA raA) rfl rfl rfl ?_
  refine awt_po rfl (wt_none rfl) (pv_move rfl rfl) rfl rfl ?_
  refine awt_po rfl (wt_none rfl) (pv_ix_t T0 rfl rfl rfl rfl (by omega) ixA) rfl rfl ?_
  refine awt_po rfl (wt_none rfl) (pv_fa_elt T0 rfl rfl rfl (by simp; rfl)) rfl rfl ?_
  refine awt_lo rfl (wt_none rfl) (lv_elt_sc T0 rfl rfl rfl rfl) rfl rfl rfl ?_
  refine awt_po rfl (wt_none rfl) (pv_fa T0 rfl rfl rfl (by simp; rfl)) rfl rfl ?_
  refine awt_lo rfl (wt_none rfl) (lv_cl1 T0 rfl rfl rfl rcA raA) rfl rfl rfl ?_
  refine awt_po rfl (wt_none rfl) (pv_move rfl rfl) rfl rfl ?_
  refine awt_po rfl (wt_none rfl) (pv_ix_t T0 rfl rfl rfl rfl (by omega) ixA) rfl rfl ?_
  refine awt_po rfl (wt_none rfl) (pv_fa_elt T0 rfl rfl rfl (by simp; rfl)) rfl rfl ?_
  refine awt_lo rfl (wt_none rfl) (lv_elt_sc T0 rfl rfl rfl rfl) rfl rfl rfl ?_
  refine awt_po rfl (wt_none rfl) (pv_fa T0 rfl rfl rfl (by simp; rfl)) rfl rfl ?_
  refine awt_lo rfl (wt_none rfl) (lv_cl1 T0 rfl rfl rfl rcA raA) rfl rfl rfl ?_
  refine awt_po rfl (wt_none rfl) (pv_move rfl rfl) rfl rfl ?_
  refine awt_po rfl (wt_none rfl) (pv_ix_t T0 rfl rfl rfl rfl (by omega) ixA) rfl rfl ?_
  refine awt_po rfl (wt_none rfl) (pv_fa_elt T0 rfl rfl rfl (by simp; rfl)) rfl rfl ?_
  refine awt_lo rfl (wt_none rfl) (lv_elt_sc T0 rfl rfl rfl rfl) rfl rfl rfl ?_
  refine awt_po rfl (wt_none rfl) (pv_build T0 rfl rfl rfl scA (by first | ((repeat' (first | exact BParts.nil | apply BParts.cons | rfl)); all_goals fail) | fail) (by first | ((repeat' (first | exact FillA.nil | exact Sp.done | apply FillA.cons | apply Sp.put | apply Sp.skip | (simp only [cellsA]; rfl) | rfl)); all_goals fail) | fail)) rfl rfl ?_
  refine awt_h (hm := []) rfl (wt_none rfl) rcA rfl (st_bsl T0 rfl rfl rfl rfl rfl rcA rfl rfl rfl rfl (by simp only [List.map_cons, List.map_nil, cellsA]; rfl) ?_)
  intro g42
  refine awt_s (md := fun _ => True) rfl (wt_none rfl) (st_app T0 rfl rfl rfl rfl rfl rfl rfl rfl rfl rcA rcA rfl rfl hr (by omega) (fun _ _ => trivial) ?_)
  intro a43 c43 p43
  first
    | refine awe_p rfl (wt_none rfl) (pv_fa T0 rfl rfl rfl (by simp; rfl)) rfl rfl ?_
    | refine awe_p rfl (wt_none rfl) (pv_fa_elt T0 rfl rfl rfl (by simp; rfl)) rfl rfl ?_
    | refine awe_p rfl (wt_none rfl) (pv_fa_rp T0 rfl rfl rfl (by simp; rfl)) rfl rfl ?_
  refine awe_s (md := fun _ => True) rfl (wt_none rfl) (st_store T0 rfl rfl rfl rfl rfl (by first | assumption | (simp only [cellsA]; rfl)) rfl rfl rfl rcA rcA trivial ?_)
  refine awe_end ?_
  exact cut_n ⟨_, _, rfl, rfl⟩ ssA rcA
end
theorem due_step {cs : List DueD} {k : Nat} (h : k < cs.length) : (cs.take (k + 1)).map dueRow = (cs.take k).map dueRow ++ [dueRow (cs.getD k default)] := rows_step (d := default) dueRow h
theorem led_p (cs cl cd : Bool) (hn : Nat) (ds : List DueD) (hb : hn ≤ 1000) (hd : ds.length ≤ 1000) : PCall Try.prog 26 [ledA cs cl cd hn ds] (fun r => r = ledA true true true hn ds) := by
  refine acall_of_awp T0 Try.func26 rfl rfl rfl ?_
  repeat (first | refine awp_seq ?_ | refine awp_region_lit rfl ?_)
  refine awl_hw (wt_none rfl) (st_box rfl rfl raA (by first | assumption | (simp only [cellsA]; rfl)) rfl rfl ?_)
  intro g1
  skip
  refine awl_hw (wt_none rfl) (st_alloc T0 rfl rfl rfl rfl scA ?_)
  intro g2
  repeat (first | refine awp_seq ?_ | refine awl_nil ?_)
  refine awp_ghost (ghost_nilrow 4 1) ?_
  refine awp_cut _ (awp_weak ssA rcA (bg_l1 (g1 := g1) (g2 := g2) (cs := cs) (cl := cl) (cd := cd) (hn := hn) (ds := ds) hb rfl)) ?_
  rintro s h ⟨g3, ao, co, rfl, rfl⟩
  refine awp_ghost (ghost_freeze_cell (g := g3) (j := 5) (v := .slice ao hn co) (E := 4) (sz := 1) (n := hn) (rows := (List.range hn).map fun k => List.map AV.ofTr [Tr.sc (.bool false)]) (fun _ => [.sc (.bool false)]) rcA rcA rfl rfl (by simp) (offRows_tree hn)) ?_
  refine awp_ghost (ghost_nilrow 165 3) ?_
  repeat (first | refine awp_seq ?_ | refine awp_block ?_ | refine awp_region_lit rfl ?_ | (show AWL _ _ _ (⟨_, .assign _, _, _, _, _⟩ :: _) _ _ _; refine awl_pw (wt_none rfl) (pv_assign rfl rfl) rfl rfl ?_) | refine awl_nil ?_)
  refine awp_loop (fun m s h => ∃ (k : Nat) (a : Option Addr) (cc : Nat) (rows : List (List AV)), k ≤ ds.length ∧ m = ds.length - k ∧ rows.length = k ∧ rows = (ds.take k).map dueRow ∧ s = [(1, .v (ptrV g1)), (2, .v (ptrV g2)), (3, .v (ptrV g3)), (4, intA k)] ∧ h = [.cl g1 91 (ledC cs cl cd hn ds), .cl g2 109 [intA 0, nilA, nilA, nilA, intA 0, nilA, nilA], .cl g3 109 [intA hn, .t (intsT true [0]), nilA, nilA, intA 0, .t (offT true hn), .v (.slice a k cc)], .rw (.slice a k cc) 165 3 rows]) ?_ ⟨0, none, 0, [], Nat.zero_le _, rfl, rfl, rfl, rfl, rfl⟩ ssA rcA
  rintro m s h ⟨k, a, cc, rows, hk, rfl, hr, hrows, rfl, rfl⟩
  by_cases hlt : k < ds.length
  · repeat (first | refine awp_seq ?_ | refine awp_block ?_ | refine awp_region_lit rfl ?_ | refine awp_skip ?_ | with_reducible refine then_n ?_ | refine awp_cond_t rfl (by first | rfl | assumption | exact dT (by omega)) ?_ | (show AWL _ _ _ (⟨_, .move _, _, _, _, _⟩ :: _) _ _ _; refine awl_pw (wt_none rfl) (pv_move rfl rfl) rfl rfl ?_) | (show AWL _ _ _ (⟨_, .load _ _, _, _, _, _⟩ :: _) _ _ _; refine awl_lw (wt_none rfl) (lv_cl1 T0 rfl rfl rfl rcA raA) rfl rfl rfl ?_) | (show AWL _ _ _ (⟨_, .fieldAddr _ _ _, _, _, _, _⟩ :: _) _ _ _; refine awl_pw (wt_none rfl) (pv_fa T0 rfl rfl rfl (by simp; rfl)) rfl rfl ?_) | (show AWL _ _ _ (⟨_, .binOp .lss _ _ _ _, _, _, _, _⟩ :: _) _ _ _; refine awl_pw (wt_none rfl) (pv_lss rfl rfl rfl) rfl rfl ?_) | (show AWL _ _ _ (⟨_, .call ⟨.builtin .len, _, _⟩, _, _, _, _⟩ :: _) _ _ _; refine awl_pw (wt_none rfl) (pv_len_t T0 rfl rfl rfl) rfl rfl ?_) | refine awl_nil ?_)
    refine awp_cutB _ (awp_weak ssA rcA (bg_5 (g1 := g1) (g2 := g2) (g3 := g3) (cs := cs) (cl := cl) (cd := cd) (hn := hn) (ds := ds) (k := k) (n := k) (cc := cc) (a := a) (rows := rows) (e2 := .cl g2 109 [intA 0, nilA, nilA, nilA, intA 0, nilA, nilA]) hlt (by omega) hr rfl)) ?_
    rintro s h ⟨a', cc', rfl, rfl⟩
    repeat (first | refine awp_region_lit rfl ?_ | (show AWL _ _ _ (⟨_, .move _, _, _, _, _⟩ :: _) _ _ _; refine awl_pw (wt_none rfl) (pv_move rfl rfl) rfl rfl ?_) | (show AWL _ _ _ (⟨_, .assign _, _, _, _, _⟩ :: _) _ _ _; refine awl_pw (wt_none rfl) (pv_assign rfl rfl) rfl rfl ?_) | (show AWL _ _ _ (⟨_, .binOp .add _ _ _ _, _, _, _, _⟩ :: _) _ _ _; refine awl_pw (wt_none rfl) (pv_add rfl rfl rfl (by first | assumption | exact wr64 (by omega))) rfl rfl ?_) | refine awl_nil ?_)
    refine rnd_n _ _ _ ?_ ⟨k + 1, a', cc', _, hlt, rfl, ?_, ?_, rfl, rfl⟩ ssA rcA
    · omega
    · rw [List.length_append, hr]; rfl
    · rw [hrows, due_step hlt]
  obtain rfl : k = ds.length := by omega
  rw [List.take_length] at hrows
  subst hrows
  refine awp_ghost (ghost_freeze_cell (g := g3) (j := 6) (v := .slice a ds.length cc) (E := 165) (sz := 3) (n := ds.length) (rows := ds.map dueRow) (fun q => dueL (ds.getD q default)) rcA rcA rfl rfl hr (rows_tree ds dueRow dueL (fun _ => rfl))) ?_
  repeat (first | refine awp_seq ?_ | refine awp_region_lit rfl ?_ | refine awp_exit ?_ | refine awp_ret ?_ | with_reducible refine then_n ?_ | refine awp_cond_f rfl (by first | rfl | assumption | exact dF (by omega)) ?_ | (show AWL _ _ _ (⟨_, .move _, _, _, _, _⟩ :: _) _ _ _; refine awl_pw (wt_none rfl) (pv_move rfl rfl) rfl rfl ?_) | (show AWL _ _ _ (⟨_, .load _ _, _, _, _, _⟩ :: _) _ _ _; refine awl_lw (wt_none rfl) (lv_cl1 T0 rfl rfl rfl rcA raA) rfl rfl rfl ?_) | (show AWL _ _ _ (⟨_, .load _ _, _, _, _, _⟩ :: _) _ _ _; refine awl_lw (wt_none rfl) (lv_cla T0 rfl rfl rfl rcA rfl) rfl rfl rfl ?_) | (show AWL _ _ _ (⟨_, .fieldAddr _ _ _, _, _, _, _⟩ :: _) _ _ _; refine awl_pw (wt_none rfl) (pv_fa T0 rfl rfl rfl (by simp; rfl)) rfl rfl ?_) | (show AWL _ _ _ (⟨_, .binOp .lss _ _ _ _, _, _, _, _⟩ :: _) _ _ _; refine awl_pw (wt_none rfl) (pv_lss rfl rfl rfl) rfl rfl ?_) | (show AWL _ _ _ (⟨_, .call ⟨.builtin .len, _, _⟩, _, _, _, _⟩ :: _) _ _ _; refine awl_pw (wt_none rfl) (pv_len_t T0 rfl rfl rfl) rfl rfl ?_) | (show AWL _ _ _ (⟨_, .store _ _ _, _, _, _, _⟩ :: _) _ _ _; refine awl_hw (wt_none rfl) (st_store T0 rfl rfl rfl rfl rfl (by first | assumption | (simp only [cellsA]; rfl)) rfl rfl rfl rcA rcA trivial ?_)) | refine awl_nil ?_)
  exact body_p (res_cell rfl rfl rcA rfl rfl rfl .nil) rfl
end Go.Proofs.Ytlpknbneilgjkaa.S
end
section
namespace Go.Proofs.Ytlpknbneilgjkaa
open Go Go.RowKit Go.Tl
set_option linter.unusedVariables false
set_option linter.unusedSimpArgs false
set_option maxRecDepth 100000
set_option maxHeartbeats 4000000
attribute [local irreducible] AWP AWL AOp PV LV AWT AWE
theorem netted_p : PCall Try.prog 22 [] (fun r => r = boolA true) := by
  have hG := R.greatest_p true bN (by decide)
  simp only [if_pos bN_f] at hG
  have hB := S.best_p true true true true 3 dN dN_v
  refine acall_of_awp T0 Try.func22 rfl rfl rfl ?_
  repeat (first | refine awp_seq ?_ | refine awp_region_lit rfl ?_ | ((first | (show AWL _ _ _ (⟨_, .assign _, _, _, _, _⟩ :: _) _ _ _; refine awl_pw ?wtq (pv_assign rfl rfl) rfl rfl ?_) | (show AWL _ _ _ (⟨_, .build _ _, _, _, _, _⟩ :: _) _ _ _; refine awl_pw ?wtq (pv_build T0 rfl rfl rfl scA (by first | ((repeat' (first | exact BParts.nil | apply BParts.cons | rfl)); all_goals fail) | fail) (by first | ((repeat' (first | exact FillA.nil | exact Sp.done | apply FillA.cons | apply Sp.put | apply Sp.skip | (simp only [cellsA]; rfl) | rfl)); all_goals fail) | fail)) rfl rfl ?_)); case wtq => exact wtA) | refine awl_nil ?_)
  refine awl_hw wtA (st_bsl T0 rfl rfl rfl rfl rfl rcA rfl rfl rfl rfl (by simp only [List.map_cons, List.map_nil, cellsA]; rfl) ?_)
  intro g11
  refine awl_ghost (ghost_freeze (d := 11) (v := .slice (some ⟨g11, 0, none⟩) 3 3) (E := 164) (sz := 4) (n := 3) (rows := bN.cons.map R.conRow) (fun q => R.conL (bN.cons.getD q default)) rcA rfl rfl (rows_tree bN.cons R.conRow R.conL (fun _ => rfl))) ?_
  repeat (first | ((first | (show AWL _ _ _ (⟨_, .build _ _, _, _, _, _⟩ :: _) _ _ _; refine awl_pw ?wtq (pv_build T0 rfl rfl rfl scA (by first | ((repeat' (first | exact BParts.nil | apply BParts.cons | rfl)); all_goals fail) | fail) (by first | ((repeat' (first | exact FillA.nil | exact Sp.done | apply FillA.cons | apply Sp.put | apply Sp.skip | (simp only [cellsA]; rfl) | rfl)); all_goals fail) | fail)) rfl rfl ?_)); case wtq => exact wtA))
  refine awl_hw wtA (st_call T0 (hG) rfl rfl rfl rfl (by first | exact callee_lit | exact callee_v | exact callee_fn | assumption) rcA raA rfl ?_)
  rintro r ⟨o, hs, rfl, hg⟩
  have g := R.gr_facts (R.vbook bN_f) hg
  have ho := ((R.offB_iff (R.vbook bN_f)).1 g.isoff)
  have hol : o.length = 3 := ho.1
  have hT := R.total_v (cp := true) (xs := o) (y := 6) (by omega) (bN_bd ho) (bN_off hg)
  repeat (first | refine awp_seq ?_ | refine awp_region_lit rfl ?_ | ((first | (show AWL _ _ _ (⟨_, .move _, _, _, _, _⟩ :: _) _ _ _; refine awl_pw ?wtq (pv_move rfl rfl) rfl rfl ?_) | (show AWL _ _ _ (⟨_, .assign _, _, _, _, _⟩ :: _) _ _ _; refine awl_pw ?wtq (pv_assign rfl rfl) rfl rfl ?_) | (show AWL _ _ _ (⟨_, .extract _ _, _, _, _, _⟩ :: _) _ _ _; refine awl_pw ?wtq (pv_extract rfl rfl rfl) rfl rfl ?_)); case wtq => exact wtA) | refine awl_nil ?_)
  refine awl_hw wtA (st_bsl T0 rfl rfl rfl rfl rfl rcA rfl rfl rfl rfl (by simp only [List.map_cons, List.map_nil, cellsA]; rfl) ?_)
  intro g18
  refine awl_ghost (ghost_freeze (d := 18) (v := .slice (some ⟨g18, 0, none⟩) 1 1) (E := 3) (sz := 1) (n := 1) (rows := ([0] : List Int).map intRow) (fun q => [.sc (.int .i64 (([0] : List Int).getD q 0))]) rcA rfl rfl (intRows_tree [0])) ?_
  repeat (first | ((first | (show AWL _ _ _ (⟨_, .build _ _, _, _, _, _⟩ :: _) _ _ _; refine awl_pw ?wtq (pv_build T0 rfl rfl rfl scA (by first | ((repeat' (first | exact BParts.nil | apply BParts.cons | rfl)); all_goals fail) | fail) (by first | ((repeat' (first | exact FillA.nil | exact Sp.done | apply FillA.cons | apply Sp.put | apply Sp.skip | (simp only [cellsA]; rfl) | rfl)); all_goals fail) | fail)) rfl rfl ?_)); case wtq => exact wtA))
  refine awl_hw wtA (st_bsl T0 rfl rfl rfl rfl rfl rcA rfl rfl rfl rfl (by simp only [List.map_cons, List.map_nil, cellsA]; rfl) ?_)
  intro g20
  refine awl_ghost (ghost_freeze (d := 20) (v := .slice (some ⟨g20, 0, none⟩) 3 3) (E := 4) (sz := 1) (n := 3) (rows := [[boolA false], [boolA false], [boolA false]]) (fun _ => [.sc (.bool false)]) rcA rfl rfl (S.offRows_tree 3)) ?_
  repeat (first | ((first | (show AWL _ _ _ (⟨_, .build _ _, _, _, _, _⟩ :: _) _ _ _; refine awl_pw ?wtq (pv_build T0 rfl rfl rfl scA (by first | ((repeat' (first | exact BParts.nil | apply BParts.cons | rfl)); all_goals fail) | fail) (by first | ((repeat' (first | exact FillA.nil | exact Sp.done | apply FillA.cons | apply Sp.put | apply Sp.skip | (simp only [cellsA]; rfl) | rfl)); all_goals fail) | fail)) rfl rfl ?_)); case wtq => exact wtA))
  refine awl_hw wtA (st_bsl T0 rfl rfl rfl rfl rfl rcA rfl rfl rfl rfl (by simp only [List.map_cons, List.map_nil, cellsA]; rfl) ?_)
  intro g24
  refine awl_ghost (ghost_freeze (d := 24) (v := .slice (some ⟨g24, 0, none⟩) 3 3) (E := 165) (sz := 3) (n := 3) (rows := dN.map S.dueRow) (fun q => S.dueL (dN.getD q default)) rcA rfl rfl (rows_tree dN S.dueRow S.dueL (fun _ => rfl))) ?_
  repeat (first | ((first | (show AWL _ _ _ (⟨_, .build _ _, _, _, _, _⟩ :: _) _ _ _; refine awl_pw ?wtq (pv_build T0 rfl rfl rfl scA (by first | ((repeat' (first | exact BParts.nil | apply BParts.cons | rfl)); all_goals fail) | fail) (by first | ((repeat' (first | exact FillA.nil | exact Sp.done | apply FillA.cons | apply Sp.put | apply Sp.skip | (simp only [cellsA]; rfl) | rfl)); all_goals fail) | fail)) rfl rfl ?_)); case wtq => exact wtA))
  refine awl_hw wtA (st_bsl T0 rfl rfl rfl rfl rfl rcA rfl rfl rfl rfl (by simp only [List.map_cons, List.map_nil, cellsA]; rfl) ?_)
  intro g26
  refine awl_ghost (ghost_freeze (d := 26) (v := .slice (some ⟨g26, 0, none⟩) 3 3) (E := 3) (sz := 1) (n := 3) (rows := (List.replicate 3 (0 : Int)).map intRow) (fun q => [.sc (.int .i64 ((List.replicate 3 (0 : Int)).getD q 0))]) rcA rfl rfl (intRows_tree (List.replicate 3 0))) ?_
  skip
  refine awl_hw wtA (st_call T0 (hB) rfl rfl rfl rfl (by first | exact callee_lit | exact callee_v | exact callee_fn | assumption) rcA raA rfl ?_)
  rintro r ⟨f, B, hb, rfl⟩
  have eB := dN_best hb
  subst eB
  repeat (first | refine awp_seq ?_ | refine awp_region_lit rfl ?_ | ((first | (show AWL _ _ _ (⟨_, .move _, _, _, _, _⟩ :: _) _ _ _; refine awl_pw ?wtq (pv_move rfl rfl) rfl rfl ?_) | (show AWL _ _ _ (⟨_, .assign _, _, _, _, _⟩ :: _) _ _ _; refine awl_pw ?wtq (pv_assign rfl rfl) rfl rfl ?_) | (show AWL _ _ _ (⟨_, .binOp .eql _ _ _ _, _, _, _, _⟩ :: _) _ _ _; refine awl_pw ?wtq (pv_eql rfl rfl rfl) rfl rfl ?_) | (show AWL _ _ _ (⟨_, .extract _ _, _, _, _, _⟩ :: _) _ _ _; refine awl_pw ?wtq (pv_extract rfl rfl rfl) rfl rfl ?_)); case wtq => exact wtA) | refine awl_nil ?_)
  refine awl_hw wtA (st_call T0 (hT) rfl rfl rfl rfl (by first | exact callee_lit | exact callee_v | exact callee_fn | assumption) rcA raA rfl ?_)
  rintro _ rfl
  repeat (first | refine awp_ret ?_ | ((first | (show AWL _ _ _ (⟨_, .move _, _, _, _, _⟩ :: _) _ _ _; refine awl_pw ?wtq (pv_move rfl rfl) rfl rfl ?_) | (show AWL _ _ _ (⟨_, .assign _, _, _, _, _⟩ :: _) _ _ _; refine awl_pw ?wtq (pv_assign rfl rfl) rfl rfl ?_) | (show AWL _ _ _ (⟨_, .binOp .eql _ _ _ _, _, _, _, _⟩ :: _) _ _ _; refine awl_pw ?wtq (pv_eql rfl rfl rfl) rfl rfl ?_) | (show AWL _ _ _ (⟨_, .pick _ _ _, _, _, _, _⟩ :: _) _ _ _; refine awl_pw ?wtq (pv_pick_t rfl rfl tfA rfl) rfl rfl ?_)); case wtq => exact wtA) | refine awl_nil ?_)
  exact body_p (.cons rfl .nil) rfl
end Go.Proofs.Ytlpknbneilgjkaa
end
section
section
namespace Go.Proofs.Ytlpknbneilgjkaa.C
open Go Go.RowKit Go.Tl
set_option linter.unusedVariables false
set_option linter.unusedSimpArgs false
set_option maxRecDepth 100000
set_option maxHeartbeats 4000000
def wkC (cp cc : Bool) (m : MktD) (d : Nat → Int) (fn gm : Nat) : List AV := intA m.ex :: .t (housT cp m.hou) :: .t (consT cc m.con) :: (arrI d 6 ++ [.v (.func (.func fn) #[] #[]), .v (.map (some gm))])
attribute [local irreducible] AWP AWL AOp PV LV AWT AWE
section
variable {g2 g3 fn : Nat} {cp cc : Bool} {m : MktD}
theorem wk_1 (hv : VMkt m) {ops : Array Oper} (h : regF Try.f198 1 = some ops) :
    AWP Try.prog Try.f198.ntmps none (.region 1 ops true) (cutQ (fun s h => ∃ gw gm, s = [(4, .v (ptrV gw))] ∧ h = [.cl gw 328 (wkC cp cc m (owedN m) fn gm), mapG spV gm []]))
      [(2, .v (ptrV g2)), (3, .v (ptrV g3))] [.cl g2 191 [intA m.ex, .t (housT cp m.hou), .t (consT cc m.con)], .cl g3 315 [.v (.func (.func fn) #[] #[])]] := by
  cases h
  refine awp_tree T0 [(0, 1), (1, 1), (3, 1), (2, 2), (4, 2), (5, 0), (6, 3), (7, 0)] (.op 0 1 (.op 1 1 (.op 3 1 (.fork 2 (.op 4 2 (.op 5 0 (.op 6 3 (.op 7 0 .stop)))) 4 (.op 2 2 (.op 5 0 (.op 6 3 (.op 7 0 .stop)))))))) [.cl g2 _ _, .cl g3 _ _] rfl (by kernel_rfl) rcA ?_
  refine awt_lo rfl (wt_none rfl) (lv_cla T0 rfl rfl rfl rcA rfl) rfl rfl rfl ?_
  refine awt_lo rfl (wt_none rfl) (lv_cla T0 rfl rfl rfl rcA rfl) rfl rfl rfl ?_
  refine awt_lo rfl (wt_none rfl) (lv_cla T0 rfl rfl rfl rcA rfl) rfl rfl rfl ?_
  refine awt_fork ?_ ?_
  · skip
    refine awt_h (hm := []) rfl (wt_none rfl) rcA rfl (st_call T0 (owed_p cp cc m hv) rfl rfl rfl rfl (by first | exact callee_lit | exact callee_v | exact callee_fn | assumption) rcA raA rfl ?_)
    rintro _ rfl
    refine awt_h (hm := []) rfl (wt_none rfl) rcA rfl (aop_makeMapG spV rfl rfl rfl fun gm => ?_)
    refine awt_n1 rfl (wt_none rfl) (pv_build T0 rfl rfl rfl scA (by first | ((repeat' (first | exact BParts.nil | apply BParts.cons | rfl)); all_goals fail) | fail) (by first | ((repeat' (first | exact FillA.nil | exact Sp.done | apply FillA.cons | apply Sp.put | apply Sp.skip | (simp only [cellsA]; rfl) | rfl)); all_goals fail) | fail)) rfl rfl rfl ?_
    refine awt_s (md := fun _ => True) rfl (wt_none rfl) (st_box rfl rfl raA (by first | assumption | (simp only [cellsA]; rfl)) rfl rfl ?_)
    intro g11
    refine awe_p rfl (wt_none rfl) (pv_assign rfl rfl) rfl rfl ?_
    refine awe_end ?_
    exact cut_n ⟨_, _, rfl, rfl⟩ ssA rcA
  · skip
    refine awt_h (hm := []) rfl (wt_none rfl) rcA rfl (aop_makeMapG spV rfl rfl rfl fun gm => ?_)
    refine awt_h (hm := []) rfl (wt_none rfl) rcA rfl (st_call T0 (owed_p cp cc m hv) rfl rfl rfl rfl (by first | exact callee_lit | exact callee_v | exact callee_fn | assumption) rcA raA rfl ?_)
    rintro _ rfl
    refine awt_n1 rfl (wt_none rfl) (pv_build T0 rfl rfl rfl scA (by first | ((repeat' (first | exact BParts.nil | apply BParts.cons | rfl)); all_goals fail) | fail) (by first | ((repeat' (first | exact FillA.nil | exact Sp.done | apply FillA.cons | apply Sp.put | apply Sp.skip | (simp only [cellsA]; rfl) | rfl)); all_goals fail) | fail)) rfl rfl rfl ?_
    refine awt_s (md := fun _ => True) rfl (wt_none rfl) (st_box rfl rfl raA (by first | assumption | (simp only [cellsA]; rfl)) rfl rfl ?_)
    intro g11
    refine awe_p rfl (wt_none rfl) (pv_assign rfl rfl) rfl rfl ?_
    refine awe_end ?_
    exact cut_n ⟨_, _, rfl, rfl⟩ ssA rcA
end
theorem work_o (cp cc : Bool) (m : MktD) (fn : Nat) (hv : VMkt m) : ACall Try.prog 198 [mktA cp cc m, .ag [.v (.func (.func fn) #[] #[])]] [] (fun r h' => ∃ gw gm, r = .v (ptrV gw) ∧ h' = [.cl gw 328 (wkC cp cc m (owedN m) fn gm), mapG spV gm []]) := by
  refine acall_of_awp T0 Try.func198 rfl rfl rfl ?_
  repeat (first | refine awp_seq ?_ | refine awp_region_lit rfl ?_)
  refine awl_hw (wt_none rfl) (st_box rfl rfl raA (by first | assumption | (simp only [cellsA]; rfl)) rfl rfl ?_)
  intro g2
  skip
  refine awl_hw (wt_none rfl) (st_box rfl rfl raA (by first | assumption | (simp only [cellsA]; rfl)) rfl rfl ?_)
  intro g3
  repeat (first | refine awp_seq ?_ | (show AWL _ _ _ (⟨_, .assign _, _, _, _, _⟩ :: _) _ _ _; refine awl_pw (wt_none rfl) (pv_assign rfl rfl) rfl rfl ?_) | refine awl_nil ?_)
  refine awp_cut _ (awp_weak ssA rcA (wk_1 (g2 := g2) (g3 := g3) (fn := fn) (cp := cp) (cc := cc) hv rfl)) ?_
  rintro s h ⟨gw, gm, rfl, rfl⟩
  repeat (first | refine awp_ret ?_)
  exact body_r (h' := [.cl gw 328 (wkC cp cc m (owedN m) fn gm), mapG spV gm []]) (.cons rfl .nil) rcA ⟨gw, gm, rfl, rfl⟩
end Go.Proofs.Ytlpknbneilgjkaa.C
end
section
namespace Go.Proofs.Ytlpknbneilgjkaa.C
open Go Go.RowKit Go.Tl
set_option linter.unusedVariables false
set_option linter.unusedSimpArgs false
set_option maxRecDepth 100000
set_option maxHeartbeats 4000000
attribute [local irreducible] AWP AWL AOp PV LV AWT AWE
section
variable {gw gm g3 g7 fn s k : Nat} {cp cc : Bool} {m : MktD} {d : Nat → Int} {left v n5 n9 n10 bd : Int} {l l' : List ((Int × Int) × AV)} {b : Bool} {hh : HouD} {u6 : AV} {of : HouD → Int → Int}
end
end Go.Proofs.Ytlpknbneilgjkaa.C
end
section
namespace Go.Proofs.Ytlpknbneilgjkaa.C
open Go Go.RowKit Go.Tl
set_option linter.unusedVariables false
set_option linter.unusedSimpArgs false
set_option maxRecDepth 100000
set_option maxHeartbeats 4000000
attribute [local irreducible] AWP AWL AOp PV LV AWT AWE
structure LackOk (of : HouD → Int → Int) (fn : Nat) : Prop where
  fns : T0.fns.any fn.beq = true
  call : ∀ h p, -1600 ≤ p → p ≤ 1800 → PCall Try.prog fn [houA h, intA p] (fun r => r = intA (of h p))
end Go.Proofs.Ytlpknbneilgjkaa.C
end
section
namespace Go.Proofs.Ytlpknbneilgjkaa.C
open Go Go.RowKit Go.Tl
set_option linter.unusedVariables false
set_option linter.unusedSimpArgs false
set_option maxRecDepth 100000
set_option maxHeartbeats 4000000
attribute [local irreducible] AWP AWL AOp PV LV AWT AWE
section
variable {g1 g2 : Nat} {cp cc : Bool} {m : MktD} {lo hi x : Int}
end
end Go.Proofs.Ytlpknbneilgjkaa.C
end
end
