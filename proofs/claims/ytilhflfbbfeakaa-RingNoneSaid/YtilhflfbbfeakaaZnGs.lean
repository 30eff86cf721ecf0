/- What the later statements need of the first ones: sums over houses, the greatest of some numbers, Total, ready. -/
import Derived.Test.YtilhflfbbfeakaaRe
import Derived.Test.YtilhflfbbfeakaaTv
import Derived.Test.YtilhflfbbfeakaaTy
namespace Go.Proofs.Ytilhflfbbfeakaa
open Go Go.RowKit Go.Tl
set_option linter.unusedVariables false
set_option linter.unusedSimpArgs false
set_option maxRecDepth 100000
set_option maxHeartbeats 4000000
attribute [local irreducible] AWP AWL AOp PV LV AWT AWE
theorem accN_congr {cs : List ConD} {f g : Nat → Int} : ∀ (k h : Nat), (∀ i, i < k → f i = g i) → accN cs f k h = accN cs g k h
  | 0, h, _ => rfl
  | k + 1, h, hf => by simp only [accN]; rw [accN_congr k h (fun i hi => hf i (by omega)), hf k (by omega)]
theorem netL_len {b : BookD} {f : Nat → Int} : (netL b f).length = b.houses.toNat := by simp [netL]
def sumR (n : Nat) (F : Nat → Int) : Int := sumI ((List.range n).map F)
theorem sumR_succ (n : Nat) (F : Nat → Int) : sumR (n + 1) F = sumR n F + F n := by simp [sumR, List.range_succ, sumI_append, sumI]
theorem sumR_congr {n : Nat} {F G : Nat → Int} (h : ∀ i, i < n → F i = G i) : sumR n F = sumR n G := by
  unfold sumR; rw [List.map_congr_left fun i hi => h i (List.mem_range.1 hi)]
theorem sumR_zero (n : Nat) : sumR n (fun _ => 0) = 0 := by
  induction n with
  | zero => rfl
  | succ n ih => rw [sumR_succ, ih]; rfl
theorem sumR_add {n : Nat} {F G : Nat → Int} : sumR n (fun i => F i + G i) = sumR n F + sumR n G := by
  induction n with
  | zero => rfl
  | succ n ih => rw [sumR_succ, sumR_succ, sumR_succ, ih]; omega
theorem sumR_sub {n : Nat} {F G : Nat → Int} : sumR n (fun i => F i - G i) = sumR n F - sumR n G := by
  induction n with
  | zero => rfl
  | succ n ih => rw [sumR_succ, sumR_succ, sumR_succ, ih]; omega
theorem sumR_le {n : Nat} {F G : Nat → Int} (h : ∀ i, i < n → F i ≤ G i) : sumR n F ≤ sumR n G := by
  induction n with
  | zero => exact Int.le_refl _
  | succ n ih => rw [sumR_succ, sumR_succ]; have := ih (fun i hi => h i (by omega)); have := h n (by omega); omega
theorem sumR_one {n : Nat} {j v : Int} (h0 : 0 ≤ j) (h1 : j < n) : sumR n (fun i => if j = (i : Int) then v else 0) = v := by
  induction n with
  | zero => omega
  | succ n ih =>
    rw [sumR_succ]
    by_cases e : j = (n : Int)
    · rw [if_pos e, sumR_congr (G := fun _ => 0) (fun i hi => if_neg (by omega)), sumR_zero]; omega
    · rw [if_neg e, ih (by omega)]; omega
theorem net_at {b : BookD} {f : Nat → Int} {h : Nat} (hh : h < b.houses.toNat) : (netL b f).getD h 0 = accN b.cons f b.cons.length h := by
  simp [netL, List.getD_eq_getElem?_getD, hh]
theorem sumI_take {l : List Int} {k : Nat} (h : k < l.length) : sumI (l.take (k + 1)) = sumI (l.take k) + l.getD k 0 := by
  rw [List.take_succ_eq_append_getElem h, sumI_append]
  simp [sumI, List.getD_eq_getElem?_getD, h]
theorem total_q (cp : Bool) (xs : List Int) (hl : xs.length ≤ 1000) (hb : ∀ x ∈ xs, -1000000000 ≤ x ∧ x ≤ 1000000000) : PCall Try.prog 33 [.t (intsT cp xs)] (fun r => r = intA (sumI xs)) := by
  refine acall_of_awp T0 Try.func33 rfl rfl rfl ?_
  repeat (first | refine awp_seq ?_ | refine awp_block ?_ | refine awp_region_lit rfl ?_ | ((first | (show AWL _ _ _ (⟨_, .assign _, _, _, _, _⟩ :: _) _ _ _; refine awl_pw ?w (pv_assign rfl rfl) rfl rfl ?_)); case w => first | exact wt_none rfl | exact wt_some' rfl rfl rfl rfl (by first | rfl | assumption | exact dT (by omega) | exact dF (by omega))) | refine awl_nil ?_)
  refine awp_loop (fun m s h => ∃ (k : Nat), k ≤ xs.length ∧ m = xs.length - k ∧ s = [(0, .t (intsT cp xs)), (3, intA (sumI (xs.take k))), (4, intA k)] ∧ h = []) ?_ ⟨0, Nat.zero_le _, rfl, rfl, rfl⟩ (by first | ((repeat' (first | exact True.intro | refine ⟨rfl, ?_⟩)); all_goals fail) | fail) (by solve | repeat' constructor)
  rintro m s h ⟨k, hk, rfl, rfl, rfl⟩
  by_cases hlt : k < xs.length
  · have h1 := hb _ (getD_mem (d := (0 : Int)) hlt)
    have h2 := sumI_bd (xs.take k) 1000000000 (fun x hx => hb x (List.mem_of_mem_take hx))
    rw [List.length_take, Nat.min_eq_left hk] at h2
    repeat (first | refine awp_seq ?_ | refine awp_block ?_ | refine awp_region_lit rfl ?_ | refine awp_skip ?_ | refine then_n ?_ | refine awp_cond_t rfl (by first | rfl | assumption | exact dT (by omega)) ?_ | ((first | (show AWL _ _ _ (⟨_, .move _, _, _, _, _⟩ :: _) _ _ _; refine awl_pw ?w (pv_move rfl rfl) rfl rfl ?_) | (show AWL _ _ _ (⟨_, .assign _, _, _, _, _⟩ :: _) _ _ _; refine awl_pw ?w (pv_assign rfl rfl) rfl rfl ?_) | (show AWL _ _ _ (⟨_, .load _ _, _, _, _, _⟩ :: _) _ _ _; refine awl_lw ?w (lv_elt_sc T0 rfl rfl rfl rfl) rfl rfl rfl ?_) | (show AWL _ _ _ (⟨_, .indexAddr _ _ _, _, _, _, _⟩ :: _) _ _ _; refine awl_pw ?w (pv_ix_t T0 rfl rfl rfl rfl (by omega) (by first | exact Int.toNat_natCast _ | rfl)) rfl rfl ?_) | (show AWL _ _ _ (⟨_, .binOp .add _ _ _ _, _, _, _, _⟩ :: _) _ _ _; refine awl_pw ?w (pv_add rfl rfl rfl (by first | assumption | exact wr64 (by omega))) rfl rfl ?_) | (show AWL _ _ _ (⟨_, .binOp .lss _ _ _ _, _, _, _, _⟩ :: _) _ _ _; refine awl_pw ?w (pv_lss rfl rfl rfl) rfl rfl ?_) | (show AWL _ _ _ (⟨_, .call ⟨.builtin .len, _, _⟩, _, _, _, _⟩ :: _) _ _ _; refine awl_pw ?w (pv_len_t T0 rfl rfl rfl) rfl rfl ?_)); case w => first | exact wt_none rfl | exact wt_some' rfl rfl rfl rfl (by first | rfl | assumption | exact dT (by omega) | exact dF (by omega))) | refine awl_nil ?_)
    rw [← sumI_take hlt]
    refine rnd_n _ _ _ ?_ ⟨k + 1, hlt, rfl, rfl, rfl⟩ (by first | ((repeat' (first | exact True.intro | refine ⟨rfl, ?_⟩)); all_goals fail) | fail) (by solve | repeat' constructor)
    omega
  · obtain rfl : k = xs.length := by omega
    rw [List.take_length]
    repeat (first | refine awp_seq ?_ | refine awp_region_lit rfl ?_ | refine awp_exit ?_ | refine awp_ret ?_ | refine then_n ?_ | refine awp_cond_f rfl (by first | rfl | assumption | exact dF (by omega)) ?_ | ((first | (show AWL _ _ _ (⟨_, .move _, _, _, _, _⟩ :: _) _ _ _; refine awl_pw ?w (pv_move rfl rfl) rfl rfl ?_) | (show AWL _ _ _ (⟨_, .assign _, _, _, _, _⟩ :: _) _ _ _; refine awl_pw ?w (pv_assign rfl rfl) rfl rfl ?_) | (show AWL _ _ _ (⟨_, .binOp .lss _ _ _ _, _, _, _, _⟩ :: _) _ _ _; refine awl_pw ?w (pv_lss rfl rfl rfl) rfl rfl ?_) | (show AWL _ _ _ (⟨_, .call ⟨.builtin .len, _, _⟩, _, _, _, _⟩ :: _) _ _ _; refine awl_pw ?w (pv_len_t T0 rfl rfl rfl) rfl rfl ?_)); case w => first | exact wt_none rfl | exact wt_some' rfl rfl rfl rfl (by first | rfl | assumption | exact dT (by omega) | exact dF (by omega))) | refine awl_nil ?_)
    exact body_p (.cons rfl .nil) rfl
def readyB (b : BookD) : Bool := decide (b.cons.length ≤ 12) && decide (faultN b = 0)
theorem ready_w {b : BookD} {r : Bool} (hl : b.cons.length ≤ 9223372036854775807) (h : readyB b = r) : PCall Try.prog 41 [bookA false b] (fun x => x = boolA r) := by
  subst h
  refine acall_of_awp T0 Try.func41 rfl rfl rfl ?_
  unfold readyB
  repeat (first | refine awp_seq ?_ | refine awp_region_lit rfl ?_)
  refine awl_hw (by first | exact wt_none rfl | exact wt_some' rfl rfl rfl rfl (by first | rfl | assumption | exact dT (by omega) | exact dF (by omega))) (st_box rfl rfl (by first | rfl | assumption) (by first | assumption | (simp only [cellsA]; rfl)) rfl rfl ?_)
  intro g1
  repeat (first | refine awp_seq ?_ | refine awp_region_lit rfl ?_ | ((first | (show AWL _ _ _ (⟨_, .assign _, _, _, _, _⟩ :: _) _ _ _; refine awl_pw ?w (pv_assign rfl rfl) rfl rfl ?_) | (show AWL _ _ _ (⟨_, .load _ _, _, _, _, _⟩ :: _) _ _ _; refine awl_lw ?w (lv_cla T0 rfl rfl rfl (by solve | repeat' constructor) rfl) rfl rfl rfl ?_)); case w => first | exact wt_none rfl | exact wt_some' rfl rfl rfl rfl (by first | rfl | assumption | exact dT (by omega) | exact dF (by omega))) | refine awl_nil ?_)
  by_cases hth : b.cons.length ≤ 12
  · refine awl_hw (by first | exact wt_none rfl | exact wt_some' rfl rfl rfl rfl (by first | rfl | assumption | exact dT (by omega) | exact dF (by omega))) (st_call T0 (thin_q hl (decide_eq_true hth)) rfl rfl rfl rfl (by first | exact callee_lit | exact callee_v | exact callee_fn | assumption) (by solve | repeat' constructor) (by first | rfl | assumption) rfl ?_)
    rintro _ rfl
    rw [decide_eq_true hth]
    repeat (first | ((first | (show AWL _ _ _ (⟨_, .move _, _, _, _, _⟩ :: _) _ _ _; refine awl_pw ?w (pv_move rfl rfl) rfl rfl ?_) | (show AWL _ _ _ (⟨_, .load _ _, _, _, _, _⟩ :: _) _ _ _; refine awl_lw ?w (lv_cla T0 rfl rfl rfl (by solve | repeat' constructor) rfl) rfl rfl rfl ?_)); case w => first | exact wt_none rfl | exact wt_some' rfl rfl rfl rfl (by first | rfl | assumption | exact dT (by omega) | exact dF (by omega))))
    refine awl_hw (by first | exact wt_none rfl | exact wt_some' rfl rfl rfl rfl (by first | rfl | assumption | exact dT (by omega) | exact dF (by omega))) (st_call T0 (fault_p false b (by omega)) rfl rfl rfl rfl (by first | exact callee_lit | exact callee_v | exact callee_fn | assumption) (by solve | repeat' constructor) (by first | rfl | assumption) rfl ?_)
    rintro _ rfl
    repeat (first | refine awp_ret ?_ | ((first | (show AWL _ _ _ (⟨_, .assign _, _, _, _, _⟩ :: _) _ _ _; refine awl_pw ?w (pv_assign rfl rfl) rfl rfl ?_) | (show AWL _ _ _ (⟨_, .binOp .eql _ _ _ _, _, _, _, _⟩ :: _) _ _ _; refine awl_pw ?w (pv_eql rfl rfl rfl) rfl rfl ?_) | (show AWL _ _ _ (⟨_, .pick _ _ _, _, _, _, _⟩ :: _) _ _ _; refine awl_pw ?w (pv_pick_t rfl rfl (by first | rfl | assumption | exact dT (by omega) | exact dF (by omega)) rfl) rfl rfl ?_)); case w => first | exact wt_none rfl | exact wt_some' rfl rfl rfl rfl (by first | rfl | assumption | exact dT (by omega) | exact dF (by omega))) | refine awl_nil ?_)
    exact body_p (.cons rfl .nil) rfl
  · refine awl_hw (by first | exact wt_none rfl | exact wt_some' rfl rfl rfl rfl (by first | rfl | assumption | exact dT (by omega) | exact dF (by omega))) (st_call T0 (thin_q hl (decide_eq_false hth)) rfl rfl rfl rfl (by first | exact callee_lit | exact callee_v | exact callee_fn | assumption) (by solve | repeat' constructor) (by first | rfl | assumption) rfl ?_)
    rintro _ rfl
    rw [decide_eq_false hth]
    repeat (first | refine awp_ret ?_ | ((first | (show AWL _ _ _ (⟨_, .move _, _, _, _, _⟩ :: _) _ _ _; refine awl_pw ?w (pv_move rfl rfl) rfl rfl ?_) | (show AWL _ _ _ (⟨_, .assign _, _, _, _, _⟩ :: _) _ _ _; refine awl_pw ?w (pv_assign rfl rfl) rfl rfl ?_) | (show AWL _ _ _ (⟨_, .load _ _, _, _, _, _⟩ :: _) _ _ _; refine awl_lw ?w (lv_cla T0 rfl rfl rfl (by solve | repeat' constructor) rfl) rfl rfl rfl ?_) | (show AWL _ _ _ (⟨_, .pick _ _ _, _, _, _, _⟩ :: _) _ _ _; refine awl_pw ?w (pv_pick_f rfl rfl (by first | rfl | assumption | exact dT (by omega) | exact dF (by omega)) rfl) rfl rfl ?_)); case w => first | exact wt_none rfl | exact wt_some' rfl rfl rfl rfl (by first | rfl | assumption | exact dT (by omega) | exact dF (by omega))) | refine awl_sk (wf_some rfl rfl rfl rfl (by first | rfl | assumption | exact dT (by omega) | exact dF (by omega))) rfl rfl ?_ | refine awl_nil ?_)
    exact body_p (.cons rfl .nil) rfl
theorem ready_v {b : BookD} (h : readyB b = true) : VBook b ∧ faultN b = 0 := by
  simp only [readyB, Bool.and_eq_true, decide_eq_true_eq] at h
  exact ⟨vbook h.2, h.2⟩
/-- no more different numbers than there are numbers -/
theorem pigeon : ∀ (h n : Nat) (f : Nat → Nat), (∀ i, i < n → f i < h) → (∀ i j, i < n → j < i → f j ≠ f i) → n ≤ h
  | 0, n, f, hb, _ => by
    rcases Nat.eq_zero_or_pos n with e | e
    · omega
    · exact absurd (hb 0 e) (Nat.not_lt_zero _)
  | h + 1, n, f, hb, hd => by
    by_cases ex : ∃ i, i < n ∧ f i = h
    · obtain ⟨i0, hi0, e0⟩ := ex
      have := pigeon h (n - 1) (fun i => if i < i0 then f i else f (i + 1)) (fun i hi => by
        split
        · have := hb i (by omega)
          have : f i ≠ f i0 := hd i0 i hi0 (by omega)
          omega
        · have := hb (i + 1) (by omega)
          have : f i0 ≠ f (i + 1) := hd (i + 1) i0 (by omega) (by omega)
          omega) (fun i j hi hj => by
        split <;> split <;> first | omega | exact hd _ _ (by omega) (by omega))
      omega
    · have := pigeon h n f (fun i hi => by
        have := hb i hi
        have : f i ≠ h := fun e => ex ⟨i, hi, e⟩
        omega) hd
      omega
theorem acc_add {cs : List ConD} {f g : Nat → Int} (h : Nat) : ∀ k, accN cs (fun i => f i + g i) k h = accN cs f k h + accN cs g k h
  | 0 => rfl
  | k + 1 => by
    simp only [accN]
    rw [acc_add h k]
    split <;> split <;> omega
theorem acc_zero {cs : List ConD} (h : Nat) : ∀ k, accN cs (fun _ => 0) k h = 0
  | 0 => rfl
  | k + 1 => by
    simp only [accN]
    rw [acc_zero h k]
    split <;> split <;> rfl
theorem acc_one {cs : List ConD} {x : Nat} {v : Int} (h : Nat) : ∀ k, accN cs (fun i => if (x : Int) = (i : Int) then v else 0) k h = if x < k then (if (cs.getD x default).to = (h : Int) then v else 0) - (if (cs.getD x default).frm = (h : Int) then v else 0) else 0
  | 0 => by simp [accN]
  | k + 1 => by
    simp only [accN]
    rw [acc_one h k]
    by_cases e : x = k
    · subst e
      rw [if_neg (Nat.lt_irrefl _), if_pos (Nat.lt_succ_self _), if_pos rfl]
      omega
    · rw [if_neg (c := (x : Int) = (k : Int)) (by omega)]
      simp only [ite_self, Int.add_zero, Int.sub_zero]
      by_cases c : x < k
      · rw [if_pos c, if_pos (c := x < k + 1) (by omega)]
      · rw [if_neg c, if_neg (c := x < k + 1) (by omega)]
theorem sumR_shift (F : Nat → Int) : ∀ n, sumR n (fun j => F (j + 1)) + F 0 = sumR (n + 1) F
  | 0 => by simp [sumR, sumI]
  | n + 1 => by
    rw [sumR_succ, sumR_succ (n + 1), ← sumR_shift F n]
    omega
theorem sumR_turn {n : Nat} (hn : 1 ≤ n) (F : Nat → Int) : sumR n (fun j => F ((j + 1) % n)) = sumR n F := by
  obtain ⟨m, rfl⟩ : ∃ m, n = m + 1 := ⟨n - 1, by omega⟩
  rw [sumR_succ, ← sumR_shift F m, Nat.mod_self]
  congr 1
  exact sumR_congr fun i hi => by rw [Nat.mod_eq_of_lt (by omega)]
end Go.Proofs.Ytilhflfbbfeakaa
