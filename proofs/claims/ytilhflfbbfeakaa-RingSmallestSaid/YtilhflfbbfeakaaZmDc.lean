/- The reference's smallest set of contracts: Less, Bits, Enough, Fewest. Walks. -/
import Derived.Test.YtilhflfbbfeakaaZmDe0
import Derived.Test.YtilhflfbbfeakaaZmFb
import Derived.Test.YtilhflfbbfeakaaZmRq
import Derived.Test.YtilhflfbbfeakaaZmGTs
import Derived.Test.YtilhflfbbfeakaaBit
import Derived.Test.YtilhflfbbfeakaaTz
namespace Go.Proofs.Ytilhflfbbfeakaa
open Go Go.RowKit Go.Tl
set_option linter.unusedVariables false
set_option linter.unusedSimpArgs false
set_option maxRecDepth 100000
set_option maxHeartbeats 4000000
theorem less_at {xs ys : List Int} (hl : xs.length = ys.length) : ∀ {k : Nat}, k < xs.length → (∀ j, j < k → xs.getD j 0 = ys.getD j 0) → xs.getD k 0 ≠ ys.getD k 0 → (lexL xs ys ↔ xs.getD k 0 < ys.getD k 0) := by
  induction xs generalizing ys with
  | nil => intro k hk; exact absurd hk (Nat.not_lt_zero _)
  | cons x xs ih =>
    cases ys with
    | nil => cases hl
    | cons y ys =>
      intro k hk hj hne
      cases k with
      | zero =>
        have hne' : x ≠ y := hne
        show (x < y ∨ (x = y ∧ lexL xs ys)) ↔ x < y
        exact ⟨fun h => by rcases h with h | h; exact h; exact absurd h.1 hne', fun h => .inl h⟩
      | succ k =>
        have h0 : x = y := hj 0 (Nat.zero_lt_succ _)
        have := ih (ys := ys) (by simpa using hl) (k := k) (by simpa using hk) (fun j hj' => hj (j + 1) (by omega)) hne
        show (x < y ∨ (x = y ∧ lexL xs ys)) ↔ _
        rw [show ((x :: xs).getD (k + 1) 0) = xs.getD k 0 from rfl, show ((y :: ys).getD (k + 1) 0) = ys.getD k 0 from rfl, ← this]
        exact ⟨fun h => by rcases h with h | h; omega; exact h.2, fun h => .inr ⟨h0, h⟩⟩
theorem lex_same {xs ys : List Int} (hl : xs.length = ys.length) (h : ∀ j, j < xs.length → xs.getD j 0 = ys.getD j 0) : ¬ lexL xs ys := by
  have : xs = ys := by
    refine List.ext_getElem hl fun i h1 h2 => ?_
    have := h i h1
    simpa [List.getD_eq_getElem?_getD, h1, h2] using this
  rw [this]
  exact lex_irr ys
theorem bool_of (p : Prop) : ∃ r : Bool, r = true ↔ p := ⟨@decide p (Classical.propDecidable p), by simp⟩
theorem bits_len (m : Nat) : ∀ k, (bitsL m k).length ≤ k
  | 0 => Nat.le_refl _
  | k + 1 => by have := bits_len m k; simp only [bitsL, List.length_append]; split <;> simp <;> omega
theorem need_bd {b : BookD} (hv : VBook b) (Z : Nat → Bool) : ∀ k : Nat, -100000000 * (k : Int) ≤ needF b Z k ∧ needF b Z k ≤ 100000000 * (k : Int)
  | 0 => by simp [needF]
  | k + 1 => by
    have ih := need_bd hv Z k
    have h1 := acc_small (cs := b.cons) (f := numF b) (k := b.cons.length) (h := k) hv.len (fun i hi => by have := hv.num i hi; unfold numF; omega)
    simp only [needF]
    split <;> omega
theorem can_bd {b : BookD} (hv : VBook b) (S Z : Nat → Bool) : ∀ k, k ≤ b.cons.length → 0 ≤ canF b S Z k ∧ canF b S Z k ≤ 100 * (k : Int)
  | 0, _ => by simp [canF]
  | k + 1, hk => by
    have ih := can_bd hv S Z k (by omega)
    have h1 : 1 ≤ numF b k ∧ numF b k ≤ 100 := hv.num k (by omega)
    simp only [canF]
    split <;> omega
attribute [local irreducible] AWP AWL AOp PV LV AWT AWE
theorem less_q {cp cp' : Bool} {xs ys : List Int} {r : Bool} (hx : xs.length ≤ 1000) (hy : ys.length ≤ 1000) (h : r = true ↔ lessL xs ys) : PCall Try.prog 53 [.t (intsT cp xs), .t (intsT cp' ys)] (fun x => x = boolA r) := by
  refine acall_of_awp T0 Try.func53 rfl rfl rfl ?_
  repeat (first | refine awp_seq ?_ | refine awp_block ?_ | refine awp_region_lit rfl ?_ | ((first | (show AWL _ _ _ (⟨_, .assign _, _, _, _, _⟩ :: _) _ _ _; refine awl_pw ?w (pv_assign rfl rfl) rfl rfl ?_)); case w => first | exact wt_none rfl | exact wt_some' rfl rfl rfl rfl (by first | rfl | assumption | exact dT (by omega) | exact dF (by omega))) | refine awl_nil ?_)
  refine awp_loop (fun m s h => ∃ (k : Nat), k ≤ xs.length ∧ m = xs.length - k ∧ (∀ j, j < k → xs.getD j 0 = ys.getD j 0) ∧ (0 < k → xs.length = ys.length) ∧ s = [(0, .t (intsT cp xs)), (1, .t (intsT cp' ys)), (5, intA k)] ∧ h = []) ?_ ⟨0, Nat.zero_le _, rfl, (fun j hj => absurd hj (Nat.not_lt_zero _)), (fun h => absurd h (Nat.lt_irrefl _)), rfl, rfl⟩ (by first | ((repeat' (first | exact True.intro | refine ⟨rfl, ?_⟩)); all_goals fail) | fail) (by solve | repeat' constructor)
  rintro m s h ⟨k, hk, rfl, hall, hle, rfl, rfl⟩
  by_cases hlt : k < xs.length
  · by_cases hl : xs.length = ys.length
    · have d1 : decide ((xs.length : Int) = ys.length) = true := decide_eq_true (by omega)
      by_cases c : xs.getD k 0 = ys.getD k 0
      · have d2 : decide (xs.getD k 0 ≠ ys.getD k 0) = false := decide_eq_false (by simpa using c)
        repeat (first | refine awp_seq ?_ | refine awp_block ?_ | refine awp_region_lit rfl ?_ | refine awp_skip ?_ | refine then_n ?_ | refine awp_cond_t rfl (by first | rfl | assumption | exact dT (by omega)) ?_ | ((first | (show AWL _ _ _ (⟨_, .move _, _, _, _, _⟩ :: _) _ _ _; refine awl_pw ?w (pv_move rfl rfl) rfl rfl ?_) | (show AWL _ _ _ (⟨_, .binOp .lss _ _ _ _, _, _, _, _⟩ :: _) _ _ _; refine awl_pw ?w (pv_lss rfl rfl rfl) rfl rfl ?_) | (show AWL _ _ _ (⟨_, .binOp .eql _ _ _ _, _, _, _, _⟩ :: _) _ _ _; refine awl_pw ?w (pv_eql rfl rfl rfl) rfl rfl ?_) | (show AWL _ _ _ (⟨_, .call ⟨.builtin .len, _, _⟩, _, _, _, _⟩ :: _) _ _ _; refine awl_pw ?w (pv_len_t T0 rfl rfl rfl) rfl rfl ?_) | (show AWL _ _ _ (⟨_, .pick _ _ _, _, _, _, _⟩ :: _) _ _ _; refine awl_pw ?w (pv_pick_t rfl rfl (by first | rfl | assumption | exact dT (by omega) | exact dF (by omega)) rfl) rfl rfl ?_)); case w => first | exact wt_none rfl | exact wt_some' rfl rfl rfl rfl (by first | rfl | assumption | exact dT (by omega) | exact dF (by omega))) | refine awl_nil ?_)
        refine awp_tree T0 [(0, 0), (1, 0), (2, 0), (3, 1), (4, 0), (5, 0), (6, 0), (7, 1), (8, 0)] (.op 0 0 (.op 1 0 (.op 2 0 (.op 3 1 (.op 4 0 (.op 5 0 (.op 6 0 (.op 7 1 (.op 8 0 .stop))))))))) _ rfl (by kernel_rfl) (SubH.refl _) ?_
        refine awt_po rfl (wt_none rfl) (pv_move rfl rfl) rfl rfl ?_
        refine awt_po rfl (wt_none rfl) (pv_move rfl rfl) rfl rfl ?_
        refine awt_po rfl (wt_none rfl) (pv_ix_t T0 rfl rfl rfl rfl (by omega) (by first | exact Int.toNat_natCast _ | rfl)) rfl rfl ?_
        refine awt_lo rfl (wt_none rfl) (lv_elt_sc T0 rfl rfl rfl rfl) rfl rfl rfl ?_
        refine awt_po rfl (wt_none rfl) (pv_move rfl rfl) rfl rfl ?_
        refine awt_po rfl (wt_none rfl) (pv_move rfl rfl) rfl rfl ?_
        refine awt_po rfl (wt_none rfl) (pv_ix_t T0 rfl rfl rfl rfl (by omega) (by first | exact Int.toNat_natCast _ | rfl)) rfl rfl ?_
        refine awt_lo rfl (wt_none rfl) (lv_elt_sc T0 rfl rfl rfl rfl) rfl rfl rfl ?_
        refine awt_po rfl (wt_none rfl) (pv_neq rfl rfl rfl) rfl rfl ?_
        refine awt_end ?_
        repeat (first | refine awp_region_lit rfl ?_ | refine awp_skip ?_ | refine then_n ?_ | refine awp_cond_f rfl (by first | rfl | assumption | exact dF (by omega)) ?_ | ((first | (show AWL _ _ _ (⟨_, .move _, _, _, _, _⟩ :: _) _ _ _; refine awl_pw ?w (pv_move rfl rfl) rfl rfl ?_) | (show AWL _ _ _ (⟨_, .assign _, _, _, _, _⟩ :: _) _ _ _; refine awl_pw ?w (pv_assign rfl rfl) rfl rfl ?_) | (show AWL _ _ _ (⟨_, .binOp .add _ _ _ _, _, _, _, _⟩ :: _) _ _ _; refine awl_pw ?w (pv_add rfl rfl rfl (by first | assumption | exact wr64 (by omega))) rfl rfl ?_)); case w => first | exact wt_none rfl | exact wt_some' rfl rfl rfl rfl (by first | rfl | assumption | exact dT (by omega) | exact dF (by omega))) | refine awl_nil ?_)
        refine rnd_n _ _ _ ?_ ⟨k + 1, by omega, rfl, fun j hj => ?_, fun _ => hl, rfl, rfl⟩ (by first | ((repeat' (first | exact True.intro | refine ⟨rfl, ?_⟩)); all_goals fail) | fail) (by solve | repeat' constructor)
        · omega
        · by_cases e : j = k
          · subst e; exact c
          · exact hall j (by omega)
      · have d2 : decide (xs.getD k 0 ≠ ys.getD k 0) = true := decide_eq_true c
        have hr : r = decide (xs.getD k 0 < ys.getD k 0) := by
          have h1 := less_at hl hlt hall c
          have h2 : r = true ↔ xs.getD k 0 < ys.getD k 0 := by
            rw [h, ← h1]
            exact ⟨fun h => by rcases h with h | h; omega; exact h.2, fun h => .inr ⟨hl, h⟩⟩
          cases r
          · exact (decide_eq_false (fun h3 => by have := h2.2 h3; cases this)).symm
          · exact (decide_eq_true (h2.1 rfl)).symm
        subst hr
        repeat (first | refine awp_seq ?_ | refine awp_block ?_ | refine awp_region_lit rfl ?_ | refine awp_skip ?_ | refine then_n ?_ | refine awp_cond_t rfl (by first | rfl | assumption | exact dT (by omega)) ?_ | ((first | (show AWL _ _ _ (⟨_, .move _, _, _, _, _⟩ :: _) _ _ _; refine awl_pw ?w (pv_move rfl rfl) rfl rfl ?_) | (show AWL _ _ _ (⟨_, .binOp .lss _ _ _ _, _, _, _, _⟩ :: _) _ _ _; refine awl_pw ?w (pv_lss rfl rfl rfl) rfl rfl ?_) | (show AWL _ _ _ (⟨_, .binOp .eql _ _ _ _, _, _, _, _⟩ :: _) _ _ _; refine awl_pw ?w (pv_eql rfl rfl rfl) rfl rfl ?_) | (show AWL _ _ _ (⟨_, .call ⟨.builtin .len, _, _⟩, _, _, _, _⟩ :: _) _ _ _; refine awl_pw ?w (pv_len_t T0 rfl rfl rfl) rfl rfl ?_) | (show AWL _ _ _ (⟨_, .pick _ _ _, _, _, _, _⟩ :: _) _ _ _; refine awl_pw ?w (pv_pick_t rfl rfl (by first | rfl | assumption | exact dT (by omega) | exact dF (by omega)) rfl) rfl rfl ?_)); case w => first | exact wt_none rfl | exact wt_some' rfl rfl rfl rfl (by first | rfl | assumption | exact dT (by omega) | exact dF (by omega))) | refine awl_nil ?_)
        refine awp_tree T0 [(0, 0), (1, 0), (2, 0), (3, 1), (4, 0), (5, 0), (6, 0), (7, 1), (8, 0)] (.op 0 0 (.op 1 0 (.op 2 0 (.op 3 1 (.op 4 0 (.op 5 0 (.op 6 0 (.op 7 1 (.op 8 0 .stop))))))))) _ rfl (by kernel_rfl) (SubH.refl _) ?_
        refine awt_po rfl (wt_none rfl) (pv_move rfl rfl) rfl rfl ?_
        refine awt_po rfl (wt_none rfl) (pv_move rfl rfl) rfl rfl ?_
        refine awt_po rfl (wt_none rfl) (pv_ix_t T0 rfl rfl rfl rfl (by omega) (by first | exact Int.toNat_natCast _ | rfl)) rfl rfl ?_
        refine awt_lo rfl (wt_none rfl) (lv_elt_sc T0 rfl rfl rfl rfl) rfl rfl rfl ?_
        refine awt_po rfl (wt_none rfl) (pv_move rfl rfl) rfl rfl ?_
        refine awt_po rfl (wt_none rfl) (pv_move rfl rfl) rfl rfl ?_
        refine awt_po rfl (wt_none rfl) (pv_ix_t T0 rfl rfl rfl rfl (by omega) (by first | exact Int.toNat_natCast _ | rfl)) rfl rfl ?_
        refine awt_lo rfl (wt_none rfl) (lv_elt_sc T0 rfl rfl rfl rfl) rfl rfl rfl ?_
        refine awt_po rfl (wt_none rfl) (pv_neq rfl rfl rfl) rfl rfl ?_
        refine awt_end ?_
        repeat (first | refine awp_seq ?_ | refine then_n ?_ | refine awp_cond_t rfl (by first | rfl | assumption | exact dT (by omega)) ?_)
        refine awp_tree T0 [(0, 0), (1, 0), (2, 0), (3, 1), (4, 0), (5, 0), (6, 0), (7, 1), (8, 0), (9, 0)] (.op 0 0 (.op 1 0 (.op 2 0 (.op 3 1 (.op 4 0 (.op 5 0 (.op 6 0 (.op 7 1 (.op 8 0 (.op 9 0 .stop)))))))))) _ rfl (by kernel_rfl) (SubH.refl _) ?_
        refine awt_po rfl (wt_none rfl) (pv_move rfl rfl) rfl rfl ?_
        refine awt_po rfl (wt_none rfl) (pv_move rfl rfl) rfl rfl ?_
        refine awt_po rfl (wt_none rfl) (pv_ix_t T0 rfl rfl rfl rfl (by omega) (by first | exact Int.toNat_natCast _ | rfl)) rfl rfl ?_
        refine awt_lo rfl (wt_none rfl) (lv_elt_sc T0 rfl rfl rfl rfl) rfl rfl rfl ?_
        refine awt_po rfl (wt_none rfl) (pv_move rfl rfl) rfl rfl ?_
        refine awt_po rfl (wt_none rfl) (pv_move rfl rfl) rfl rfl ?_
        refine awt_po rfl (wt_none rfl) (pv_ix_t T0 rfl rfl rfl rfl (by omega) (by first | exact Int.toNat_natCast _ | rfl)) rfl rfl ?_
        refine awt_lo rfl (wt_none rfl) (lv_elt_sc T0 rfl rfl rfl rfl) rfl rfl rfl ?_
        refine awt_po rfl (wt_none rfl) (pv_lss rfl rfl rfl) rfl rfl ?_
        refine awt_po rfl (wt_none rfl) (pv_assign rfl rfl) rfl rfl ?_
        refine awt_end ?_
        repeat (first | refine awp_ret ?_ | refine then_r ?_ | refine blk_r ?_ | refine rnd_r ?_)
        exact body_p (.cons rfl .nil) rfl
    · have d1 : decide ((xs.length : Int) = ys.length) = false := decide_eq_false (by omega)
      have hr : r = decide ((xs.length : Int) < ys.length) := by
        have h2 : r = true ↔ (xs.length : Int) < ys.length := by
          rw [h]
          exact ⟨fun h => by rcases h with h | h; omega; exact absurd h.1 hl, fun h => .inl (by omega)⟩
        cases r
        · exact (decide_eq_false (fun h3 => by have := h2.2 h3; cases this)).symm
        · exact (decide_eq_true (h2.1 rfl)).symm
      subst hr
      repeat (first | refine awp_seq ?_ | refine awp_region_lit rfl ?_ | refine awp_exit ?_ | refine awp_ret ?_ | refine then_n ?_ | refine awp_cond_f rfl (by first | rfl | assumption | exact dF (by omega)) ?_ | ((first | (show AWL _ _ _ (⟨_, .move _, _, _, _, _⟩ :: _) _ _ _; refine awl_pw ?w (pv_move rfl rfl) rfl rfl ?_) | (show AWL _ _ _ (⟨_, .assign _, _, _, _, _⟩ :: _) _ _ _; refine awl_pw ?w (pv_assign rfl rfl) rfl rfl ?_) | (show AWL _ _ _ (⟨_, .binOp .lss _ _ _ _, _, _, _, _⟩ :: _) _ _ _; refine awl_pw ?w (pv_lss rfl rfl rfl) rfl rfl ?_) | (show AWL _ _ _ (⟨_, .binOp .eql _ _ _ _, _, _, _, _⟩ :: _) _ _ _; refine awl_pw ?w (pv_eql rfl rfl rfl) rfl rfl ?_) | (show AWL _ _ _ (⟨_, .call ⟨.builtin .len, _, _⟩, _, _, _, _⟩ :: _) _ _ _; refine awl_pw ?w (pv_len_t T0 rfl rfl rfl) rfl rfl ?_) | (show AWL _ _ _ (⟨_, .pick _ _ _, _, _, _, _⟩ :: _) _ _ _; refine awl_pw ?w (pv_pick_t rfl rfl (by first | rfl | assumption | exact dT (by omega) | exact dF (by omega)) rfl) rfl rfl ?_)); case w => first | exact wt_none rfl | exact wt_some' rfl rfl rfl rfl (by first | rfl | assumption | exact dT (by omega) | exact dF (by omega))) | refine awl_nil ?_)
      exact body_p (.cons rfl .nil) rfl
  obtain rfl : k = xs.length := by omega
  have hr : r = decide ((xs.length : Int) < ys.length) := by
    have h2 : r = true ↔ (xs.length : Int) < ys.length := by
      rw [h]
      refine ⟨fun h => ?_, fun h => .inl (by omega)⟩
      rcases h with h | h
      · omega
      · exact absurd h.2 (lex_same h.1 hall)
    cases r
    · exact (decide_eq_false (fun h3 => by have := h2.2 h3; cases this)).symm
    · exact (decide_eq_true (h2.1 rfl)).symm
  subst hr
  repeat (first | refine awp_seq ?_ | refine awp_region_lit rfl ?_ | refine awp_exit ?_ | refine awp_ret ?_ | refine then_n ?_ | refine awp_cond_f rfl (by first | rfl | assumption | exact dF (by omega)) ?_ | ((first | (show AWL _ _ _ (⟨_, .move _, _, _, _, _⟩ :: _) _ _ _; refine awl_pw ?w (pv_move rfl rfl) rfl rfl ?_) | (show AWL _ _ _ (⟨_, .assign _, _, _, _, _⟩ :: _) _ _ _; refine awl_pw ?w (pv_assign rfl rfl) rfl rfl ?_) | (show AWL _ _ _ (⟨_, .binOp .lss _ _ _ _, _, _, _, _⟩ :: _) _ _ _; refine awl_pw ?w (pv_lss rfl rfl rfl) rfl rfl ?_) | (show AWL _ _ _ (⟨_, .call ⟨.builtin .len, _, _⟩, _, _, _, _⟩ :: _) _ _ _; refine awl_pw ?w (pv_len_t T0 rfl rfl rfl) rfl rfl ?_) | (show AWL _ _ _ (⟨_, .pick _ _ _, _, _, _, _⟩ :: _) _ _ _; refine awl_pw ?w (pv_pick_f rfl rfl (by first | rfl | assumption | exact dT (by omega) | exact dF (by omega)) rfl) rfl rfl ?_)); case w => first | exact wt_none rfl | exact wt_some' rfl rfl rfl rfl (by first | rfl | assumption | exact dT (by omega) | exact dF (by omega))) | refine awl_sk (wf_some rfl rfl rfl rfl (by first | rfl | assumption | exact dT (by omega) | exact dF (by omega))) rfl rfl ?_ | refine awl_nil ?_)
  exact body_p (.cons rfl .nil) rfl
theorem bits_p (m : Nat) (hm : m < 100000) : PCall Try.prog 54 [intA m] (fun x => x = .t (intsT true (bitsL m 16))) := by
  refine acall_of_awp T0 Try.func54 rfl rfl rfl ?_
  repeat (first | refine awp_seq ?_ | refine awp_block ?_ | refine awp_region_lit rfl ?_ | ((first | (show AWL _ _ _ (⟨_, .assign _, _, _, _, _⟩ :: _) _ _ _; refine awl_pw ?w (pv_assign rfl rfl) rfl rfl ?_)); case w => first | exact wt_none rfl | exact wt_some' rfl rfl rfl rfl (by first | rfl | assumption | exact dT (by omega) | exact dF (by omega))) | refine awl_nil ?_)
  refine awp_ghost (ghost_nilrow 3 1) ?_
  refine awp_loop (fun q s h => ∃ (k N : Nat) (a : Option Addr) (c : Nat) (rows : List (List AV)), k ≤ 16 ∧ q = 16 - k ∧ N = (bitsL m k).length ∧ rows = (bitsL m k).map intRow ∧ rows.length = N ∧
    s = [(0, intA m), (3, .v (.slice a N c)), (4, intA k)] ∧ h = [.rw (.slice a N c) 3 1 rows]) ?_ ⟨0, _, _, _, _, Nat.zero_le _, rfl, rfl, rfl, rfl, rfl, rfl⟩ (by first | ((repeat' (first | exact True.intro | refine ⟨rfl, ?_⟩)); all_goals fail) | fail) (by solve | repeat' constructor)
  rintro q s h ⟨k, N, a, c, rows, hk, rfl, hN, hrows, hrl, rfl, rfl⟩
  have hbk := bits_len m k
  by_cases hlt : k < 16
  case neg =>
    obtain rfl : k = 16 := by omega
    refine awp_ghost (ghost_freeze (E := 3) (sz := 1) (n := N) (rows := rows) (d := 3) (fun q => [.sc (.int .i64 ((bitsL m 16).getD q 0))]) (by solve | repeat' constructor) rfl hrl (by rw [hrows, hN]; exact intRows_tree _)) ?_
    repeat (first | refine awp_seq ?_ | refine awp_region_lit rfl ?_ | refine awp_exit ?_ | refine awp_ret ?_ | refine then_n ?_ | refine awp_cond_f rfl (by first | rfl | assumption | exact dF (by omega)) ?_ | ((first | (show AWL _ _ _ (⟨_, .move _, _, _, _, _⟩ :: _) _ _ _; refine awl_pw ?w (pv_move rfl rfl) rfl rfl ?_) | (show AWL _ _ _ (⟨_, .assign _, _, _, _, _⟩ :: _) _ _ _; refine awl_pw ?w (pv_assign rfl rfl) rfl rfl ?_) | (show AWL _ _ _ (⟨_, .binOp .lss _ _ _ _, _, _, _, _⟩ :: _) _ _ _; refine awl_pw ?w (pv_lss rfl rfl rfl) rfl rfl ?_)); case w => first | exact wt_none rfl | exact wt_some' rfl rfl rfl rfl (by first | rfl | assumption | exact dT (by omega) | exact dF (by omega))) | refine awl_nil ?_)
    subst hN
    exact body_p (.cons rfl .nil) rfl
  have hs1 := bit_fdiv m (i := (k : Int)) (j := k) rfl (by omega)
  have hr1 := bit_rem (m / 2 ^ k)
  have hd1 := bit_dec m k
  repeat (first | refine awp_seq ?_ | refine awp_block ?_ | refine awp_region_lit rfl ?_ | refine awp_skip ?_ | refine then_n ?_ | refine awp_cond_t rfl (by first | rfl | assumption | exact dT (by omega)) ?_ | ((first | (show AWL _ _ _ (⟨_, .move _, _, _, _, _⟩ :: _) _ _ _; refine awl_pw ?w (pv_move rfl rfl) rfl rfl ?_) | (show AWL _ _ _ (⟨_, .binOp .lss _ _ _ _, _, _, _, _⟩ :: _) _ _ _; refine awl_pw ?w (pv_lss rfl rfl rfl) rfl rfl ?_)); case w => first | exact wt_none rfl | exact wt_some' rfl rfl rfl rfl (by first | rfl | assumption | exact dT (by omega) | exact dF (by omega))) | refine awl_nil ?_)
  refine awl_pw (wt_none rfl) (pv_convert rfl rfl Try.underlying3 Try.underlying84 (wu64 (by omega))) rfl rfl ?_
  refine awl_pw (wt_none rfl) (pv_shr rfl rfl rfl (by omega) hs1) rfl rfl ?_
  repeat (first | refine then_n ?_ | ((first | (show AWL _ _ _ (⟨_, .binOp .rem _ _ _ _, _, _, _, _⟩ :: _) _ _ _; refine awl_pw ?w (pv_rem rfl rfl rfl (by omega) (by first | assumption | rfl)) rfl rfl ?_) | (show AWL _ _ _ (⟨_, .binOp .eql _ _ _ _, _, _, _, _⟩ :: _) _ _ _; refine awl_pw ?w (pv_eql rfl rfl rfl) rfl rfl ?_)); case w => first | exact wt_none rfl | exact wt_some' rfl rfl rfl rfl (by first | rfl | assumption | exact dT (by omega) | exact dF (by omega))) | refine awl_nil ?_)
  rw [hd1]
  cases e1 : m.testBit k
  · have hst : bitsL m (k + 1) = bitsL m k := by simp only [bitsL, e1]; simp
    repeat (first | refine awp_region_lit rfl ?_ | refine awp_skip ?_ | refine awp_cond_f rfl (by first | rfl | assumption | exact dF (by omega)) ?_ | ((first | (show AWL _ _ _ (⟨_, .move _, _, _, _, _⟩ :: _) _ _ _; refine awl_pw ?w (pv_move rfl rfl) rfl rfl ?_) | (show AWL _ _ _ (⟨_, .assign _, _, _, _, _⟩ :: _) _ _ _; refine awl_pw ?w (pv_assign rfl rfl) rfl rfl ?_) | (show AWL _ _ _ (⟨_, .binOp .add _ _ _ _, _, _, _, _⟩ :: _) _ _ _; refine awl_pw ?w (pv_add rfl rfl rfl (by first | assumption | exact wr64 (by omega))) rfl rfl ?_)); case w => first | exact wt_none rfl | exact wt_some' rfl rfl rfl rfl (by first | rfl | assumption | exact dT (by omega) | exact dF (by omega))) | refine awl_nil ?_)
    refine rnd_n _ _ _ ?_ ⟨k + 1, N, a, c, rows, hlt, rfl, by rw [hst]; exact hN, by rw [hst]; exact hrows, hrl, rfl, rfl⟩ (by first | ((repeat' (first | exact True.intro | refine ⟨rfl, ?_⟩)); all_goals fail) | fail) (by solve | repeat' constructor)
    omega
  · have hst : bitsL m (k + 1) = bitsL m k ++ [(k : Int)] := by simp only [bitsL, e1]; simp
    repeat (first | refine awp_region_lit rfl ?_ | refine awp_cond_t rfl (by first | rfl | assumption | exact dT (by omega)) ?_ | ((first | (show AWL _ _ _ (⟨_, .move _, _, _, _, _⟩ :: _) _ _ _; refine awl_pw ?w (pv_move rfl rfl) rfl rfl ?_)); case w => first | exact wt_none rfl | exact wt_some' rfl rfl rfl rfl (by first | rfl | assumption | exact dT (by omega) | exact dF (by omega))))
    refine awl_hw (by first | exact wt_none rfl | exact wt_some' rfl rfl rfl rfl (by first | rfl | assumption | exact dT (by omega) | exact dF (by omega))) (st_bsl T0 rfl rfl rfl rfl rfl (by solve | repeat' constructor) rfl rfl rfl rfl (by simp only [List.map_cons, List.map_nil, cellsA]; rfl) ?_)
    intro g17
    skip
    refine awl_hw (by first | exact wt_none rfl | exact wt_some' rfl rfl rfl rfl (by first | rfl | assumption | exact dT (by omega) | exact dF (by omega))) (st_app T0 rfl rfl rfl rfl rfl rfl rfl rfl rfl (by solve | repeat' constructor) (by solve | repeat' constructor) rfl rfl hrl (by omega) (fun _ _ => trivial) ?_)
    intro a18 c18 p18
    repeat (first | refine awp_region_lit rfl ?_ | ((first | (show AWL _ _ _ (⟨_, .move _, _, _, _, _⟩ :: _) _ _ _; refine awl_pw ?w (pv_move rfl rfl) rfl rfl ?_) | (show AWL _ _ _ (⟨_, .assign _, _, _, _, _⟩ :: _) _ _ _; refine awl_pw ?w (pv_assign rfl rfl) rfl rfl ?_) | (show AWL _ _ _ (⟨_, .binOp .add _ _ _ _, _, _, _, _⟩ :: _) _ _ _; refine awl_pw ?w (pv_add rfl rfl rfl (by first | assumption | exact wr64 (by omega))) rfl rfl ?_)); case w => first | exact wt_none rfl | exact wt_some' rfl rfl rfl rfl (by first | rfl | assumption | exact dT (by omega) | exact dF (by omega))) | refine awl_nil ?_)
    refine rnd_n _ _ _ ?_ ⟨k + 1, N + 1, a18, c18, _, hlt, rfl, ?_, ?_, ?_, rfl, rfl⟩ (by first | ((repeat' (first | exact True.intro | refine ⟨rfl, ?_⟩)); all_goals fail) | fail) (by solve | repeat' constructor)
    · omega
    · rw [hst, List.length_append, ← hN]; rfl
    · rw [hst, hrows, List.map_append]; rfl
    · simp; omega
theorem enough_q {b : BookD} {m : Nat} {e : Bool} (cp : Bool) (hv : VBook b) (hm : m < 100000) (he : e = true ↔ EnoughS b (fun i => m.testBit i)) : PCall Try.prog 52 [bookA cp b, intA m] (fun r => r = boolA e) := by
  have hh := hv.houses
  have hlen := hv.len
  have hml : (b.cons.map (·.num)).length = b.cons.length := by simp
  have hmb : ∀ i, i < (b.cons.map (·.num)).length → -1000000 ≤ (b.cons.map (·.num)).getD i 0 ∧ (b.cons.map (·.num)).getD i 0 ≤ 1000000 := fun i hi => by
    rw [nums_at (by omega)]
    have := hv.num i (by omega)
    unfold numF
    omega
  have hneq : netL b (fun i => (b.cons.map (·.num)).getD i 0) = netL b (numF b) := netL_congr fun i hi => nums_at hi
  have hnet := pcall_weak (net_p b true (b.cons.map (·.num)) hv hml hmb) (.cons (bookA_le (cp := cp) b) (.cons (.refl _) .nil))
  rw [hneq] at hnet
  obtain ⟨n, hn⟩ : ∃ n : Nat, b.houses = n := ⟨b.houses.toNat, by omega⟩
  have hnt : b.houses.toNat = n := by omega
  have hsh : IntKind.i64.wrap (1 * 2 ^ (min b.houses.toNat 64)) = ((2 ^ n : Nat) : Int) := shl_one hn (by omega)
  have hpu : 2 ^ n ≤ 2 ^ 6 := Nat.pow_le_pow_right (by omega) (by omega)
  have he' : e = true ↔ ∀ set, set < 2 ^ n → needF b (fun v => set.testBit v) n ≤ canF b (fun i => m.testBit i) (fun v => set.testBit v) b.cons.length := by rw [he]; unfold EnoughS; rw [hnt]
  have hw1 : (netL b (numF b)).length = n := by rw [netL_len]; omega
  have hwat : ∀ k, k < n → (netL b (numF b)).getD k 0 = accN b.cons (numF b) b.cons.length k := fun k hk => net_at (by omega)
  have hwb : ∀ k : Nat, -100000000 ≤ accN b.cons (numF b) b.cons.length k ∧ accN b.cons (numF b) b.cons.length k ≤ 100000000 := fun k => acc_small (by omega) (fun i hi => by have := hv.num i hi; unfold numF; omega)
  refine acall_of_awp T0 Try.func52 rfl rfl rfl ?_
  clear he
  generalize 2 ^ n = P at *
  repeat (first | refine awp_seq ?_ | refine awp_region_lit rfl ?_)
  refine awl_hw (by first | exact wt_none rfl | exact wt_some' rfl rfl rfl rfl (by first | rfl | assumption | exact dT (by omega) | exact dF (by omega))) (st_box rfl rfl (by first | rfl | assumption) (by first | assumption | (simp only [cellsA]; rfl)) rfl rfl ?_)
  intro g2
  repeat (first | refine awp_seq ?_ | ((first | (show AWL _ _ _ (⟨_, .assign _, _, _, _, _⟩ :: _) _ _ _; refine awl_pw ?w (pv_assign rfl rfl) rfl rfl ?_)); case w => first | exact wt_none rfl | exact wt_some' rfl rfl rfl rfl (by first | rfl | assumption | exact dT (by omega) | exact dF (by omega))) | refine awl_nil ?_)
  refine awp_tree T0 [(0, 1), (1, 1), (2, 2), (3, 3), (4, 0)] (.op 0 1 (.op 1 1 (.op 2 2 (.op 3 3 (.op 4 0 .stop))))) _ rfl (by kernel_rfl) (SubH.refl _) ?_
  refine awt_lo rfl (wt_none rfl) (lv_cla T0 rfl rfl rfl (by solve | repeat' constructor) rfl) rfl rfl rfl ?_
  refine awt_lo rfl (wt_none rfl) (lv_cla T0 rfl rfl rfl (by solve | repeat' constructor) rfl) rfl rfl rfl ?_
  refine awt_h (hm := []) rfl (wt_none rfl) (by solve | repeat' constructor) rfl (st_call T0 (all_p cp b (by omega)) rfl rfl rfl rfl (by first | exact callee_lit | exact callee_v | exact callee_fn | assumption) (by solve | repeat' constructor) (by first | rfl | assumption) rfl ?_)
  rintro _ rfl
  refine awt_s (md := fun _ => True) rfl (wt_none rfl) (st_call T0 (hnet) rfl rfl rfl rfl (by first | exact callee_lit | exact callee_v | exact callee_fn | assumption) (by solve | repeat' constructor) (by first | rfl | assumption) rfl ?_)
  rintro _ rfl
  refine awe_p rfl (wt_none rfl) (pv_assign rfl rfl) rfl rfl ?_
  refine awe_end ?_
  generalize netL b (numF b) = W at *
  repeat (first | refine awp_seq ?_ | refine awp_block ?_ | refine awp_region_lit rfl ?_ | ((first | (show AWL _ _ _ (⟨_, .assign _, _, _, _, _⟩ :: _) _ _ _; refine awl_pw ?w (pv_assign rfl rfl) rfl rfl ?_)); case w => first | exact wt_none rfl | exact wt_some' rfl rfl rfl rfl (by first | rfl | assumption | exact dT (by omega) | exact dF (by omega))) | refine awl_nil ?_)
  refine awp_loop (fun q s h => ∃ (set : Nat), set ≤ P ∧ q = P - set ∧ (∀ s', s' < set → needF b (fun v => s'.testBit v) n ≤ canF b (fun i => m.testBit i) (fun v => s'.testBit v) b.cons.length) ∧ s = [(1, intA m), (2, .v (ptrV g2)), (5, .t (intsT true W)), (6, intA set)] ∧ h = [.cl g2 24 [intA b.houses, .t (consT cp b.cons)]]) ?_ ⟨0, Nat.zero_le _, rfl, (fun j hj => absurd hj (Nat.not_lt_zero _)), rfl, rfl⟩ (by first | ((repeat' (first | exact True.intro | refine ⟨rfl, ?_⟩)); all_goals fail) | fail) (by solve | repeat' constructor)
  rintro q s h ⟨set, hset, rfl, hall, rfl, rfl⟩
  repeat (first | refine awp_seq ?_ | refine awp_region_lit rfl ?_ | ((first | (show AWL _ _ _ (⟨_, .move _, _, _, _, _⟩ :: _) _ _ _; refine awl_pw ?w (pv_move rfl rfl) rfl rfl ?_) | (show AWL _ _ _ (⟨_, .load _ _, _, _, _, _⟩ :: _) _ _ _; refine awl_lw ?w (lv_cl1 T0 rfl rfl rfl (by solve | repeat' constructor) (by first | rfl | assumption)) rfl rfl rfl ?_) | (show AWL _ _ _ (⟨_, .fieldAddr _ _ _, _, _, _, _⟩ :: _) _ _ _; refine awl_pw ?w (pv_fa T0 rfl rfl rfl (by simp; rfl)) rfl rfl ?_)); case w => first | exact wt_none rfl | exact wt_some' rfl rfl rfl rfl (by first | rfl | assumption | exact dT (by omega) | exact dF (by omega))))
  refine awl_pw (wt_none rfl) (pv_convert rfl rfl Try.underlying3 Try.underlying84 (wu64 (by omega))) rfl rfl ?_
  refine awl_pw (wt_none rfl) (pv_shl rfl rfl rfl (by omega) hsh) rfl rfl ?_
  by_cases hlt : set < P
  case neg =>
    have er : e = true := he'.2 fun s' hs' => hall s' (by omega)
    subst er
    repeat (first | refine awp_seq ?_ | refine awp_region_lit rfl ?_ | refine awp_exit ?_ | refine awp_ret ?_ | refine then_n ?_ | refine awp_cond_f rfl (by first | rfl | assumption | exact dF (by omega)) ?_ | ((first | (show AWL _ _ _ (⟨_, .assign _, _, _, _, _⟩ :: _) _ _ _; refine awl_pw ?w (pv_assign rfl rfl) rfl rfl ?_) | (show AWL _ _ _ (⟨_, .binOp .lss _ _ _ _, _, _, _, _⟩ :: _) _ _ _; refine awl_pw ?w (pv_lss rfl rfl rfl) rfl rfl ?_)); case w => first | exact wt_none rfl | exact wt_some' rfl rfl rfl rfl (by first | rfl | assumption | exact dT (by omega) | exact dF (by omega))) | refine awl_nil ?_)
    exact body_p (.cons rfl .nil) rfl
  repeat (first | refine awp_seq ?_ | refine awp_block ?_ | refine awp_region_lit rfl ?_ | refine awp_skip ?_ | refine then_n ?_ | refine awp_cond_t rfl (by first | rfl | assumption | exact dT (by omega)) ?_ | ((first | (show AWL _ _ _ (⟨_, .assign _, _, _, _, _⟩ :: _) _ _ _; refine awl_pw ?w (pv_assign rfl rfl) rfl rfl ?_) | (show AWL _ _ _ (⟨_, .binOp .lss _ _ _ _, _, _, _, _⟩ :: _) _ _ _; refine awl_pw ?w (pv_lss rfl rfl rfl) rfl rfl ?_)); case w => first | exact wt_none rfl | exact wt_some' rfl rfl rfl rfl (by first | rfl | assumption | exact dT (by omega) | exact dF (by omega))) | refine awl_nil ?_)
  refine awp_loop (fun q s h => ∃ (k : Nat), k ≤ n ∧ q = n - k ∧ s = [(1, intA m), (2, .v (ptrV g2)), (5, .t (intsT true W)), (6, intA set), (7, intA (needF b (fun v => set.testBit v) k)), (8, intA 0), (9, intA k)] ∧ h = [.cl g2 24 [intA b.houses, .t (consT cp b.cons)]]) ?_ ⟨0, Nat.zero_le _, rfl, rfl, rfl⟩ (by first | ((repeat' (first | exact True.intro | refine ⟨rfl, ?_⟩)); all_goals fail) | fail) (by solve | repeat' constructor)
  rintro q s h ⟨k, hk, rfl, rfl, rfl⟩
  by_cases hkl : (k : Int) < b.houses
  · have hs1 := bit_fdiv set (i := (k : Int)) (j := k) rfl (by omega)
    have hr1 := bit_rem (set / 2 ^ k)
    have hd1 := bit_dec set k
    have hwk := hwat k (by omega)
    have hwk2 := hwb k
    have hnb := need_bd hv (fun v => set.testBit v) k
    have hns : needF b (fun v => set.testBit v) (k + 1) = needF b (fun v => set.testBit v) k + if set.testBit k then accN b.cons (numF b) b.cons.length k else 0 := rfl
    generalize needF b (fun v => set.testBit v) k = nk at *
    repeat (first | refine awp_seq ?_ | refine awp_block ?_ | refine awp_region_lit rfl ?_ | refine awp_skip ?_ | refine then_n ?_ | refine awp_cond_t rfl (by first | rfl | assumption | exact dT (by omega)) ?_ | ((first | (show AWL _ _ _ (⟨_, .move _, _, _, _, _⟩ :: _) _ _ _; refine awl_pw ?w (pv_move rfl rfl) rfl rfl ?_) | (show AWL _ _ _ (⟨_, .load _ _, _, _, _, _⟩ :: _) _ _ _; refine awl_lw ?w (lv_cl1 T0 rfl rfl rfl (by solve | repeat' constructor) (by first | rfl | assumption)) rfl rfl rfl ?_) | (show AWL _ _ _ (⟨_, .fieldAddr _ _ _, _, _, _, _⟩ :: _) _ _ _; refine awl_pw ?w (pv_fa T0 rfl rfl rfl (by simp; rfl)) rfl rfl ?_) | (show AWL _ _ _ (⟨_, .binOp .lss _ _ _ _, _, _, _, _⟩ :: _) _ _ _; refine awl_pw ?w (pv_lss rfl rfl rfl) rfl rfl ?_)); case w => first | exact wt_none rfl | exact wt_some' rfl rfl rfl rfl (by first | rfl | assumption | exact dT (by omega) | exact dF (by omega))) | refine awl_nil ?_)
    refine awl_pw (wt_none rfl) (pv_convert rfl rfl Try.underlying3 Try.underlying84 (wu64 (by omega))) rfl rfl ?_
    refine awl_pw (wt_none rfl) (pv_shr rfl rfl rfl (by omega) hs1) rfl rfl ?_
    repeat (first | refine then_n ?_ | ((first | (show AWL _ _ _ (⟨_, .binOp .rem _ _ _ _, _, _, _, _⟩ :: _) _ _ _; refine awl_pw ?w (pv_rem rfl rfl rfl (by omega) (by first | assumption | rfl)) rfl rfl ?_) | (show AWL _ _ _ (⟨_, .binOp .eql _ _ _ _, _, _, _, _⟩ :: _) _ _ _; refine awl_pw ?w (pv_eql rfl rfl rfl) rfl rfl ?_)); case w => first | exact wt_none rfl | exact wt_some' rfl rfl rfl rfl (by first | rfl | assumption | exact dT (by omega) | exact dF (by omega))) | refine awl_nil ?_)
    rw [hd1]
    cases e1 : set.testBit k
    · rw [e1] at hns
      have hns' : needF b (fun v => set.testBit v) (k + 1) = nk := by rw [hns]; simp
      repeat (first | refine awp_region_lit rfl ?_ | refine awp_skip ?_ | refine awp_cond_f rfl (by first | rfl | assumption | exact dF (by omega)) ?_ | ((first | (show AWL _ _ _ (⟨_, .move _, _, _, _, _⟩ :: _) _ _ _; refine awl_pw ?w (pv_move rfl rfl) rfl rfl ?_) | (show AWL _ _ _ (⟨_, .assign _, _, _, _, _⟩ :: _) _ _ _; refine awl_pw ?w (pv_assign rfl rfl) rfl rfl ?_) | (show AWL _ _ _ (⟨_, .binOp .add _ _ _ _, _, _, _, _⟩ :: _) _ _ _; refine awl_pw ?w (pv_add rfl rfl rfl (by first | assumption | exact wr64 (by omega))) rfl rfl ?_)); case w => first | exact wt_none rfl | exact wt_some' rfl rfl rfl rfl (by first | rfl | assumption | exact dT (by omega) | exact dF (by omega))) | refine awl_nil ?_)
      refine rnd_n _ _ _ ?_ ⟨k + 1, by omega, rfl, by rw [hns'], rfl⟩ (by first | ((repeat' (first | exact True.intro | refine ⟨rfl, ?_⟩)); all_goals fail) | fail) (by solve | repeat' constructor)
      omega
    · rw [e1] at hns
      have hns' : needF b (fun v => set.testBit v) (k + 1) = nk + W.getD k 0 := by rw [hns, hwk]; simp
      repeat (first | refine awp_region_lit rfl ?_ | refine awp_cond_t rfl (by first | rfl | assumption | exact dT (by omega)) ?_ | ((first | (show AWL _ _ _ (⟨_, .move _, _, _, _, _⟩ :: _) _ _ _; refine awl_pw ?w (pv_move rfl rfl) rfl rfl ?_) | (show AWL _ _ _ (⟨_, .assign _, _, _, _, _⟩ :: _) _ _ _; refine awl_pw ?w (pv_assign rfl rfl) rfl rfl ?_) | (show AWL _ _ _ (⟨_, .load _ _, _, _, _, _⟩ :: _) _ _ _; refine awl_lw ?w (lv_elt_sc T0 rfl rfl rfl rfl) rfl rfl rfl ?_) | (show AWL _ _ _ (⟨_, .indexAddr _ _ _, _, _, _, _⟩ :: _) _ _ _; refine awl_pw ?w (pv_ix_t T0 rfl rfl rfl rfl (by omega) (by first | exact Int.toNat_natCast _ | rfl)) rfl rfl ?_) | (show AWL _ _ _ (⟨_, .binOp .add _ _ _ _, _, _, _, _⟩ :: _) _ _ _; refine awl_pw ?w (pv_add rfl rfl rfl (by first | assumption | exact wr64 (by omega))) rfl rfl ?_)); case w => first | exact wt_none rfl | exact wt_some' rfl rfl rfl rfl (by first | rfl | assumption | exact dT (by omega) | exact dF (by omega))) | refine awl_nil ?_)
      refine rnd_n _ _ _ ?_ ⟨k + 1, by omega, rfl, by rw [hns'], rfl⟩ (by first | ((repeat' (first | exact True.intro | refine ⟨rfl, ?_⟩)); all_goals fail) | fail) (by solve | repeat' constructor)
      omega
  obtain rfl : k = n := by omega
  have hnb := need_bd hv (fun v => set.testBit v) k
  repeat (first | refine awp_seq ?_ | refine awp_block ?_ | refine awp_region_lit rfl ?_ | refine awp_exit ?_ | refine then_n ?_ | refine awp_cond_f rfl (by first | rfl | assumption | exact dF (by omega)) ?_ | ((first | (show AWL _ _ _ (⟨_, .move _, _, _, _, _⟩ :: _) _ _ _; refine awl_pw ?w (pv_move rfl rfl) rfl rfl ?_) | (show AWL _ _ _ (⟨_, .assign _, _, _, _, _⟩ :: _) _ _ _; refine awl_pw ?w (pv_assign rfl rfl) rfl rfl ?_) | (show AWL _ _ _ (⟨_, .load _ _, _, _, _, _⟩ :: _) _ _ _; refine awl_lw ?w (lv_cl1 T0 rfl rfl rfl (by solve | repeat' constructor) (by first | rfl | assumption)) rfl rfl rfl ?_) | (show AWL _ _ _ (⟨_, .fieldAddr _ _ _, _, _, _, _⟩ :: _) _ _ _; refine awl_pw ?w (pv_fa T0 rfl rfl rfl (by simp; rfl)) rfl rfl ?_) | (show AWL _ _ _ (⟨_, .binOp .lss _ _ _ _, _, _, _, _⟩ :: _) _ _ _; refine awl_pw ?w (pv_lss rfl rfl rfl) rfl rfl ?_)); case w => first | exact wt_none rfl | exact wt_some' rfl rfl rfl rfl (by first | rfl | assumption | exact dT (by omega) | exact dF (by omega))) | refine awl_nil ?_)
  refine awp_loop (fun q s h => ∃ (i : Nat), i ≤ b.cons.length ∧ q = b.cons.length - i ∧ s = [(1, intA m), (2, .v (ptrV g2)), (5, .t (intsT true W)), (6, intA set), (7, intA (needF b (fun v => set.testBit v) k)), (8, intA (canF b (fun i => m.testBit i) (fun v => set.testBit v) i)), (10, intA i)] ∧ h = [.cl g2 24 [intA b.houses, .t (consT cp b.cons)]]) ?_ ⟨0, Nat.zero_le _, rfl, rfl, rfl⟩ (by first | ((repeat' (first | exact True.intro | refine ⟨rfl, ?_⟩)); all_goals fail) | fail) (by solve | repeat' constructor)
  rintro q s h ⟨i, hi, rfl, rfl, rfl⟩
  by_cases hil : i < b.cons.length
  · have hf := hv.frm i hil
    have ht := hv.to i hil
    have hnm := hv.num i hil
    have hcb := can_bd hv (fun i => m.testBit i) (fun v => set.testBit v) i hi
    have hcs : canF b (fun i => m.testBit i) (fun v => set.testBit v) (i + 1) = canF b (fun i => m.testBit i) (fun v => set.testBit v) i + if m.testBit i && (set.testBit (b.cons.getD i default).to.toNat && !(set.testBit (b.cons.getD i default).frm.toNat)) then (b.cons.getD i default).num else 0 := rfl
    generalize canF b (fun i => m.testBit i) (fun v => set.testBit v) i = cn at *
    obtain ⟨jf, hjf⟩ : ∃ j : Nat, (b.cons.getD i default).frm = j := ⟨_, (Int.toNat_of_nonneg hf.1).symm⟩
    obtain ⟨jt, hjt⟩ : ∃ j : Nat, (b.cons.getD i default).to = j := ⟨_, (Int.toNat_of_nonneg ht.1).symm⟩
    rw [hjf, hjt, Int.toNat_natCast, Int.toNat_natCast] at hcs
    have hs1 := bit_fdiv m (i := (i : Int)) (j := i) rfl (by omega)
    have hr1 := bit_rem (m / 2 ^ i)
    have hd1 := bit_dec m i
    have hs2 := bit_fdiv set (i := (b.cons.getD i default).to) (j := jt) hjt (by omega)
    have hr2 := bit_rem (set / 2 ^ jt)
    have hd2 := bit_dec set jt
    have hs3 := bit_fdiv set (i := (b.cons.getD i default).frm) (j := jf) hjf (by omega)
    have hr3 := bit_rem (set / 2 ^ jf)
    have hd3 : decide (((set / 2 ^ jf % 2 : Nat) : Int) = 0) = !set.testBit jf := by
      rw [← bit_dec set jf]
      rcases Nat.mod_two_eq_zero_or_one (set / 2 ^ jf) with h | h <;> rw [h] <;> rfl
    repeat (first | refine awp_seq ?_ | refine awp_block ?_ | refine awp_region_lit rfl ?_ | refine awp_skip ?_ | refine then_n ?_ | refine awp_cond_t rfl (by first | rfl | assumption | exact dT (by omega)) ?_ | ((first | (show AWL _ _ _ (⟨_, .move _, _, _, _, _⟩ :: _) _ _ _; refine awl_pw ?w (pv_move rfl rfl) rfl rfl ?_) | (show AWL _ _ _ (⟨_, .load _ _, _, _, _, _⟩ :: _) _ _ _; refine awl_lw ?w (lv_cl1 T0 rfl rfl rfl (by solve | repeat' constructor) (by first | rfl | assumption)) rfl rfl rfl ?_) | (show AWL _ _ _ (⟨_, .load _ _, _, _, _, _⟩ :: _) _ _ _; refine awl_lw ?w (lv_elt_ag T0 rfl rfl rfl rfl (by solve | repeat' constructor)) rfl rfl rfl ?_) | (show AWL _ _ _ (⟨_, .fieldAddr _ _ _, _, _, _, _⟩ :: _) _ _ _; refine awl_pw ?w (pv_fa T0 rfl rfl rfl (by simp; rfl)) rfl rfl ?_) | (show AWL _ _ _ (⟨_, .indexAddr _ _ _, _, _, _, _⟩ :: _) _ _ _; refine awl_pw ?w (pv_ix_t T0 rfl rfl rfl rfl (by omega) (by first | exact Int.toNat_natCast _ | rfl)) rfl rfl ?_) | (show AWL _ _ _ (⟨_, .binOp .lss _ _ _ _, _, _, _, _⟩ :: _) _ _ _; refine awl_pw ?w (pv_lss rfl rfl rfl) rfl rfl ?_) | (show AWL _ _ _ (⟨_, .call ⟨.builtin .len, _, _⟩, _, _, _, _⟩ :: _) _ _ _; refine awl_pw ?w (pv_len_t T0 rfl rfl rfl) rfl rfl ?_)); case w => first | exact wt_none rfl | exact wt_some' rfl rfl rfl rfl (by first | rfl | assumption | exact dT (by omega) | exact dF (by omega))) | refine awl_nil ?_)
    refine awl_hw (by first | exact wt_none rfl | exact wt_some' rfl rfl rfl rfl (by first | rfl | assumption | exact dT (by omega) | exact dF (by omega))) (st_alloc T0 rfl rfl rfl rfl (by simp only [Value.cells, List.toList_toArray, List.map_cons, List.map_nil]; rfl) ?_)
    intro g11
    repeat (first | refine awp_seq ?_ | refine awp_region_lit rfl ?_ | ((first | (show AWL _ _ _ (⟨_, .move _, _, _, _, _⟩ :: _) _ _ _; refine awl_pw ?w (pv_move rfl rfl) rfl rfl ?_)); case w => first | exact wt_none rfl | exact wt_some' rfl rfl rfl rfl (by first | rfl | assumption | exact dT (by omega) | exact dF (by omega))) | (show AWL _ _ _ (⟨_, .store _ _ _, _, _, _, _⟩ :: _) _ _ _; refine awl_hw (by first | exact wt_none rfl | exact wt_some' rfl rfl rfl rfl (by first | rfl | assumption | exact dT (by omega) | exact dF (by omega))) (st_store T0 rfl rfl rfl rfl rfl (by first | assumption | (simp only [cellsA]; rfl)) rfl rfl rfl (by solve | repeat' constructor) (by solve | repeat' constructor) trivial ?_)) | refine awl_nil ?_)
    refine awl_pw (wt_none rfl) (pv_convert rfl rfl Try.underlying3 Try.underlying84 (wu64 (by omega))) rfl rfl ?_
    refine awl_pw (wt_none rfl) (pv_shr rfl rfl rfl (by omega) hs1) rfl rfl ?_
    repeat (first | ((first | (show AWL _ _ _ (⟨_, .move _, _, _, _, _⟩ :: _) _ _ _; refine awl_pw ?w (pv_move rfl rfl) rfl rfl ?_) | (show AWL _ _ _ (⟨_, .binOp .rem _ _ _ _, _, _, _, _⟩ :: _) _ _ _; refine awl_pw ?w (pv_rem rfl rfl rfl (by omega) (by first | assumption | rfl)) rfl rfl ?_) | (show AWL _ _ _ (⟨_, .binOp .eql _ _ _ _, _, _, _, _⟩ :: _) _ _ _; refine awl_pw ?w (pv_eql rfl rfl rfl) rfl rfl ?_)); case w => first | exact wt_none rfl | exact wt_some' rfl rfl rfl rfl (by first | rfl | assumption | exact dT (by omega) | exact dF (by omega))))
    rw [hd1]
    cases e1 : m.testBit i
    · have hcs' : canF b (fun i => m.testBit i) (fun v => set.testBit v) (i + 1) = cn := by rw [hcs, e1]; simp
      repeat (first | refine awp_region_lit rfl ?_ | refine awp_skip ?_ | refine then_n ?_ | refine awp_cond_f rfl (by first | rfl | assumption | exact dF (by omega)) ?_ | ((first | (show AWL _ _ _ (⟨_, .move _, _, _, _, _⟩ :: _) _ _ _; refine awl_pw ?w (pv_move rfl rfl) rfl rfl ?_) | (show AWL _ _ _ (⟨_, .assign _, _, _, _, _⟩ :: _) _ _ _; refine awl_pw ?w (pv_assign rfl rfl) rfl rfl ?_) | (show AWL _ _ _ (⟨_, .fieldAddr _ _ _, _, _, _, _⟩ :: _) _ _ _; refine awl_pw ?w (pv_fa T0 rfl rfl rfl (by simp; rfl)) rfl rfl ?_) | (show AWL _ _ _ (⟨_, .binOp .add _ _ _ _, _, _, _, _⟩ :: _) _ _ _; refine awl_pw ?w (pv_add rfl rfl rfl (by first | assumption | exact wr64 (by omega))) rfl rfl ?_) | (show AWL _ _ _ (⟨_, .pick _ _ _, _, _, _, _⟩ :: _) _ _ _; refine awl_pw ?w (pv_pick_f rfl rfl (by first | rfl | assumption | exact dT (by omega) | exact dF (by omega)) rfl) rfl rfl ?_)); case w => first | exact wt_none rfl | exact wt_some' rfl rfl rfl rfl (by first | rfl | assumption | exact dT (by omega) | exact dF (by omega))) | refine awl_sk (wf_some rfl rfl rfl rfl (by first | rfl | assumption | exact dT (by omega) | exact dF (by omega))) rfl rfl ?_ | refine awl_nil ?_)
      refine rnd_n _ _ _ ?_ ⟨i + 1, hil, rfl, by rw [hcs'], rfl⟩ (by first | ((repeat' (first | exact True.intro | refine ⟨rfl, ?_⟩)); all_goals fail) | fail) (by solve | repeat' constructor)
      omega
    repeat (first | ((first | (show AWL _ _ _ (⟨_, .move _, _, _, _, _⟩ :: _) _ _ _; refine awl_pw ?w (pv_move rfl rfl) rfl rfl ?_) | (show AWL _ _ _ (⟨_, .load _ _, _, _, _, _⟩ :: _) _ _ _; refine awl_lw ?w (lv_cl1 T0 rfl rfl rfl (by solve | repeat' constructor) (by first | rfl | assumption)) rfl rfl rfl ?_) | (show AWL _ _ _ (⟨_, .fieldAddr _ _ _, _, _, _, _⟩ :: _) _ _ _; refine awl_pw ?w (pv_fa T0 rfl rfl rfl (by simp; rfl)) rfl rfl ?_)); case w => first | exact wt_none rfl | exact wt_some' rfl rfl rfl rfl (by first | rfl | assumption | exact dT (by omega) | exact dF (by omega))))
    refine awl_pw (wt_some' rfl rfl rfl rfl rfl) (pv_convert rfl rfl Try.underlying3 Try.underlying84 (wu64 (by omega))) rfl rfl ?_
    refine awl_pw (wt_some' rfl rfl rfl rfl rfl) (pv_shr rfl rfl rfl (by omega) hs2) rfl rfl ?_
    repeat (first | ((first | (show AWL _ _ _ (⟨_, .move _, _, _, _, _⟩ :: _) _ _ _; refine awl_pw ?w (pv_move rfl rfl) rfl rfl ?_) | (show AWL _ _ _ (⟨_, .binOp .rem _ _ _ _, _, _, _, _⟩ :: _) _ _ _; refine awl_pw ?w (pv_rem rfl rfl rfl (by omega) (by first | assumption | rfl)) rfl rfl ?_) | (show AWL _ _ _ (⟨_, .binOp .eql _ _ _ _, _, _, _, _⟩ :: _) _ _ _; refine awl_pw ?w (pv_eql rfl rfl rfl) rfl rfl ?_) | (show AWL _ _ _ (⟨_, .pick _ _ _, _, _, _, _⟩ :: _) _ _ _; refine awl_pw ?w (pv_pick_t rfl rfl (by first | rfl | assumption | exact dT (by omega) | exact dF (by omega)) rfl) rfl rfl ?_)); case w => first | exact wt_none rfl | exact wt_some' rfl rfl rfl rfl (by first | rfl | assumption | exact dT (by omega) | exact dF (by omega))))
    rw [hd2]
    cases e2 : set.testBit jt
    · have hcs' : canF b (fun i => m.testBit i) (fun v => set.testBit v) (i + 1) = cn := by rw [hcs, e1, e2]; simp
      repeat (first | refine awp_region_lit rfl ?_ | refine awp_skip ?_ | refine then_n ?_ | refine awp_cond_f rfl (by first | rfl | assumption | exact dF (by omega)) ?_ | ((first | (show AWL _ _ _ (⟨_, .move _, _, _, _, _⟩ :: _) _ _ _; refine awl_pw ?w (pv_move rfl rfl) rfl rfl ?_) | (show AWL _ _ _ (⟨_, .assign _, _, _, _, _⟩ :: _) _ _ _; refine awl_pw ?w (pv_assign rfl rfl) rfl rfl ?_) | (show AWL _ _ _ (⟨_, .fieldAddr _ _ _, _, _, _, _⟩ :: _) _ _ _; refine awl_pw ?w (pv_fa T0 rfl rfl rfl (by simp; rfl)) rfl rfl ?_) | (show AWL _ _ _ (⟨_, .binOp .add _ _ _ _, _, _, _, _⟩ :: _) _ _ _; refine awl_pw ?w (pv_add rfl rfl rfl (by first | assumption | exact wr64 (by omega))) rfl rfl ?_) | (show AWL _ _ _ (⟨_, .pick _ _ _, _, _, _, _⟩ :: _) _ _ _; refine awl_pw ?w (pv_pick_f rfl rfl (by first | rfl | assumption | exact dT (by omega) | exact dF (by omega)) rfl) rfl rfl ?_)); case w => first | exact wt_none rfl | exact wt_some' rfl rfl rfl rfl (by first | rfl | assumption | exact dT (by omega) | exact dF (by omega))) | refine awl_sk (wf_some rfl rfl rfl rfl (by first | rfl | assumption | exact dT (by omega) | exact dF (by omega))) rfl rfl ?_ | refine awl_nil ?_)
      refine rnd_n _ _ _ ?_ ⟨i + 1, hil, rfl, by rw [hcs'], rfl⟩ (by first | ((repeat' (first | exact True.intro | refine ⟨rfl, ?_⟩)); all_goals fail) | fail) (by solve | repeat' constructor)
      omega
    repeat (first | ((first | (show AWL _ _ _ (⟨_, .move _, _, _, _, _⟩ :: _) _ _ _; refine awl_pw ?w (pv_move rfl rfl) rfl rfl ?_) | (show AWL _ _ _ (⟨_, .load _ _, _, _, _, _⟩ :: _) _ _ _; refine awl_lw ?w (lv_cl1 T0 rfl rfl rfl (by solve | repeat' constructor) (by first | rfl | assumption)) rfl rfl rfl ?_) | (show AWL _ _ _ (⟨_, .fieldAddr _ _ _, _, _, _, _⟩ :: _) _ _ _; refine awl_pw ?w (pv_fa T0 rfl rfl rfl (by simp; rfl)) rfl rfl ?_)); case w => first | exact wt_none rfl | exact wt_some' rfl rfl rfl rfl (by first | rfl | assumption | exact dT (by omega) | exact dF (by omega))))
    refine awl_pw (wt_some' rfl rfl rfl rfl rfl) (pv_convert rfl rfl Try.underlying3 Try.underlying84 (wu64 (by omega))) rfl rfl ?_
    refine awl_pw (wt_some' rfl rfl rfl rfl rfl) (pv_shr rfl rfl rfl (by omega) hs3) rfl rfl ?_
    repeat (first | refine then_n ?_ | ((first | (show AWL _ _ _ (⟨_, .binOp .rem _ _ _ _, _, _, _, _⟩ :: _) _ _ _; refine awl_pw ?w (pv_rem rfl rfl rfl (by omega) (by first | assumption | rfl)) rfl rfl ?_) | (show AWL _ _ _ (⟨_, .binOp .eql _ _ _ _, _, _, _, _⟩ :: _) _ _ _; refine awl_pw ?w (pv_eql rfl rfl rfl) rfl rfl ?_) | (show AWL _ _ _ (⟨_, .pick _ _ _, _, _, _, _⟩ :: _) _ _ _; refine awl_pw ?w (pv_pick_t rfl rfl (by first | rfl | assumption | exact dT (by omega) | exact dF (by omega)) rfl) rfl rfl ?_)); case w => first | exact wt_none rfl | exact wt_some' rfl rfl rfl rfl (by first | rfl | assumption | exact dT (by omega) | exact dF (by omega))) | refine awl_nil ?_)
    rw [hd3]
    cases e3 : set.testBit jf
    · have hcs' : canF b (fun i => m.testBit i) (fun v => set.testBit v) (i + 1) = cn + (b.cons.getD i default).num := by rw [hcs, e1, e2, e3]; simp
      repeat (first | refine awp_region_lit rfl ?_ | refine awp_cond_t rfl (by first | rfl | assumption | exact dT (by omega)) ?_ | ((first | (show AWL _ _ _ (⟨_, .move _, _, _, _, _⟩ :: _) _ _ _; refine awl_pw ?w (pv_move rfl rfl) rfl rfl ?_) | (show AWL _ _ _ (⟨_, .assign _, _, _, _, _⟩ :: _) _ _ _; refine awl_pw ?w (pv_assign rfl rfl) rfl rfl ?_) | (show AWL _ _ _ (⟨_, .load _ _, _, _, _, _⟩ :: _) _ _ _; refine awl_lw ?w (lv_cl1 T0 rfl rfl rfl (by solve | repeat' constructor) (by first | rfl | assumption)) rfl rfl rfl ?_) | (show AWL _ _ _ (⟨_, .fieldAddr _ _ _, _, _, _, _⟩ :: _) _ _ _; refine awl_pw ?w (pv_fa T0 rfl rfl rfl (by simp; rfl)) rfl rfl ?_) | (show AWL _ _ _ (⟨_, .binOp .add _ _ _ _, _, _, _, _⟩ :: _) _ _ _; refine awl_pw ?w (pv_add rfl rfl rfl (by first | assumption | exact wr64 (by omega))) rfl rfl ?_)); case w => first | exact wt_none rfl | exact wt_some' rfl rfl rfl rfl (by first | rfl | assumption | exact dT (by omega) | exact dF (by omega))) | refine awl_nil ?_)
      refine rnd_n _ _ _ ?_ ⟨i + 1, hil, rfl, by rw [hcs'], rfl⟩ (by first | ((repeat' (first | exact True.intro | refine ⟨rfl, ?_⟩)); all_goals fail) | fail) (by solve | repeat' constructor)
      omega
    · have hcs' : canF b (fun i => m.testBit i) (fun v => set.testBit v) (i + 1) = cn := by rw [hcs, e1, e2, e3]; simp
      repeat (first | refine awp_region_lit rfl ?_ | refine awp_skip ?_ | refine awp_cond_f rfl (by first | rfl | assumption | exact dF (by omega)) ?_ | ((first | (show AWL _ _ _ (⟨_, .move _, _, _, _, _⟩ :: _) _ _ _; refine awl_pw ?w (pv_move rfl rfl) rfl rfl ?_) | (show AWL _ _ _ (⟨_, .assign _, _, _, _, _⟩ :: _) _ _ _; refine awl_pw ?w (pv_assign rfl rfl) rfl rfl ?_) | (show AWL _ _ _ (⟨_, .binOp .add _ _ _ _, _, _, _, _⟩ :: _) _ _ _; refine awl_pw ?w (pv_add rfl rfl rfl (by first | assumption | exact wr64 (by omega))) rfl rfl ?_)); case w => first | exact wt_none rfl | exact wt_some' rfl rfl rfl rfl (by first | rfl | assumption | exact dT (by omega) | exact dF (by omega))) | refine awl_nil ?_)
      refine rnd_n _ _ _ ?_ ⟨i + 1, hil, rfl, by rw [hcs'], rfl⟩ (by first | ((repeat' (first | exact True.intro | refine ⟨rfl, ?_⟩)); all_goals fail) | fail) (by solve | repeat' constructor)
      omega
  obtain rfl : i = b.cons.length := by omega
  by_cases hnc : needF b (fun v => set.testBit v) k ≤ canF b (fun i => m.testBit i) (fun v => set.testBit v) b.cons.length
  · have d1 : decide (canF b (fun i => m.testBit i) (fun v => set.testBit v) b.cons.length < needF b (fun v => set.testBit v) k) = false := decide_eq_false (by omega)
    repeat (first | refine awp_seq ?_ | refine awp_region_lit rfl ?_ | refine awp_skip ?_ | refine awp_exit ?_ | refine then_n ?_ | refine awp_cond_f rfl (by first | rfl | assumption | exact dF (by omega)) ?_ | ((first | (show AWL _ _ _ (⟨_, .move _, _, _, _, _⟩ :: _) _ _ _; refine awl_pw ?w (pv_move rfl rfl) rfl rfl ?_) | (show AWL _ _ _ (⟨_, .assign _, _, _, _, _⟩ :: _) _ _ _; refine awl_pw ?w (pv_assign rfl rfl) rfl rfl ?_) | (show AWL _ _ _ (⟨_, .load _ _, _, _, _, _⟩ :: _) _ _ _; refine awl_lw ?w (lv_cl1 T0 rfl rfl rfl (by solve | repeat' constructor) (by first | rfl | assumption)) rfl rfl rfl ?_) | (show AWL _ _ _ (⟨_, .fieldAddr _ _ _, _, _, _, _⟩ :: _) _ _ _; refine awl_pw ?w (pv_fa T0 rfl rfl rfl (by simp; rfl)) rfl rfl ?_) | (show AWL _ _ _ (⟨_, .binOp .add _ _ _ _, _, _, _, _⟩ :: _) _ _ _; refine awl_pw ?w (pv_add rfl rfl rfl (by first | assumption | exact wr64 (by omega))) rfl rfl ?_) | (show AWL _ _ _ (⟨_, .binOp .lss _ _ _ _, _, _, _, _⟩ :: _) _ _ _; refine awl_pw ?w (pv_lss rfl rfl rfl) rfl rfl ?_) | (show AWL _ _ _ (⟨_, .binOp .gtr _ _ _ _, _, _, _, _⟩ :: _) _ _ _; refine awl_pw ?w (pv_gtr rfl rfl rfl) rfl rfl ?_) | (show AWL _ _ _ (⟨_, .call ⟨.builtin .len, _, _⟩, _, _, _, _⟩ :: _) _ _ _; refine awl_pw ?w (pv_len_t T0 rfl rfl rfl) rfl rfl ?_)); case w => first | exact wt_none rfl | exact wt_some' rfl rfl rfl rfl (by first | rfl | assumption | exact dT (by omega) | exact dF (by omega))) | refine awl_nil ?_)
    refine rnd_n _ _ _ ?_ ⟨set + 1, hlt, rfl, fun s' hs' => ?_, rfl, rfl⟩ (by first | ((repeat' (first | exact True.intro | refine ⟨rfl, ?_⟩)); all_goals fail) | fail) (by solve | repeat' constructor)
    · omega
    · by_cases c : s' = set
      · subst c; exact hnc
      · exact hall s' (by omega)
  · have d1 : decide (canF b (fun i => m.testBit i) (fun v => set.testBit v) b.cons.length < needF b (fun v => set.testBit v) k) = true := decide_eq_true (by omega)
    have er : e = false := by
      cases e
      · rfl
      · exact absurd (he'.1 rfl set hlt) hnc
    subst er
    repeat (first | refine awp_seq ?_ | refine awp_region_lit rfl ?_ | refine awp_exit ?_ | refine awp_ret ?_ | refine then_n ?_ | refine then_r ?_ | refine blk_r ?_ | refine rnd_r ?_ | refine awp_cond_t rfl (by first | rfl | assumption | exact dT (by omega)) ?_ | refine awp_cond_f rfl (by first | rfl | assumption | exact dF (by omega)) ?_ | ((first | (show AWL _ _ _ (⟨_, .move _, _, _, _, _⟩ :: _) _ _ _; refine awl_pw ?w (pv_move rfl rfl) rfl rfl ?_) | (show AWL _ _ _ (⟨_, .assign _, _, _, _, _⟩ :: _) _ _ _; refine awl_pw ?w (pv_assign rfl rfl) rfl rfl ?_) | (show AWL _ _ _ (⟨_, .load _ _, _, _, _, _⟩ :: _) _ _ _; refine awl_lw ?w (lv_cl1 T0 rfl rfl rfl (by solve | repeat' constructor) (by first | rfl | assumption)) rfl rfl rfl ?_) | (show AWL _ _ _ (⟨_, .fieldAddr _ _ _, _, _, _, _⟩ :: _) _ _ _; refine awl_pw ?w (pv_fa T0 rfl rfl rfl (by simp; rfl)) rfl rfl ?_) | (show AWL _ _ _ (⟨_, .binOp .lss _ _ _ _, _, _, _, _⟩ :: _) _ _ _; refine awl_pw ?w (pv_lss rfl rfl rfl) rfl rfl ?_) | (show AWL _ _ _ (⟨_, .binOp .gtr _ _ _ _, _, _, _, _⟩ :: _) _ _ _; refine awl_pw ?w (pv_gtr rfl rfl rfl) rfl rfl ?_) | (show AWL _ _ _ (⟨_, .call ⟨.builtin .len, _, _⟩, _, _, _, _⟩ :: _) _ _ _; refine awl_pw ?w (pv_len_t T0 rfl rfl rfl) rfl rfl ?_)); case w => first | exact wt_none rfl | exact wt_some' rfl rfl rfl rfl (by first | rfl | assumption | exact dT (by omega) | exact dF (by omega))) | refine awl_nil ?_)
    exact body_p (.cons rfl .nil) rfl
theorem reffewest_p (b : BookD) (hv : VBook b) : PCall Try.prog 39 [bookA false b] (fun r => ∃ s, MinS b s ∧ r = .t (intsT true s)) := by
  have hh := hv.houses
  have hlen := hv.len
  have hsh : IntKind.i64.wrap (1 * 2 ^ (min (b.cons.length : Int).toNat 64)) = ((2 ^ b.cons.length : Nat) : Int) := shl_one rfl (by omega)
  have hpu : 2 ^ b.cons.length ≤ 2 ^ 8 := Nat.pow_le_pow_right (by omega) (by omega)
  have hp1 : 1 ≤ 2 ^ b.cons.length := Nat.one_le_two_pow
  have hfull : EnoughS b (fun i => (2 ^ b.cons.length - 1).testBit i) := enough_of hv (f := numF b) (del_full hv fun i hi => by rw [Nat.testBit_two_pow_sub_one]; exact decide_eq_true hi)
  have hmin : ∀ s, Ext b.cons.length s 0 → EnL b s → (∀ m, m < 2 ^ b.cons.length → EnoughS b (fun i => m.testBit i) → ¬ lessL (bitsL m 16) s) → MinS b s := fun s h1 h2 h => min_bits hv h1 h2 h
  have hext : ∀ m, m < 2 ^ b.cons.length → Ext b.cons.length (bitsL m 16) 0 := fun m hm => bits_ext hm (by omega)
  have henl : ∀ m, m < 2 ^ b.cons.length → (EnL b (bitsL m 16) ↔ EnoughS b (fun i => m.testBit i)) := fun m hm => enL_bits hv hm
  have hbl : ∀ m k, (bitsL m k).length ≤ k := bits_len
  have hfe := hext (2 ^ b.cons.length - 1) (by omega)
  have hfn := (henl (2 ^ b.cons.length - 1) (by omega)).2 hfull
  have hfl := hbl (2 ^ b.cons.length - 1) 16
  have hfc : ((2 ^ b.cons.length : Nat) : Int) - 1 = ((2 ^ b.cons.length - 1 : Nat) : Int) := by omega
  refine acall_of_awp T0 Try.func39 rfl rfl rfl ?_
  generalize 2 ^ b.cons.length = P at *
  have hbits := bits_p (P - 1) (by omega)
  generalize bitsL (P - 1) 16 = full at *
  rw [← hfc] at hbits
  repeat (first | refine awp_seq ?_ | refine awp_region_lit rfl ?_)
  refine awl_hw (by first | exact wt_none rfl | exact wt_some' rfl rfl rfl rfl (by first | rfl | assumption | exact dT (by omega) | exact dF (by omega))) (st_box rfl rfl (by first | rfl | assumption) (by first | assumption | (simp only [cellsA]; rfl)) rfl rfl ?_)
  intro g1
  repeat (first | refine awp_seq ?_ | refine awp_region_lit rfl ?_ | ((first | (show AWL _ _ _ (⟨_, .assign _, _, _, _, _⟩ :: _) _ _ _; refine awl_pw ?w (pv_assign rfl rfl) rfl rfl ?_) | (show AWL _ _ _ (⟨_, .load _ _, _, _, _, _⟩ :: _) _ _ _; refine awl_lw ?w (lv_cl1 T0 rfl rfl rfl (by solve | repeat' constructor) (by first | rfl | assumption)) rfl rfl rfl ?_) | (show AWL _ _ _ (⟨_, .fieldAddr _ _ _, _, _, _, _⟩ :: _) _ _ _; refine awl_pw ?w (pv_fa T0 rfl rfl rfl (by simp; rfl)) rfl rfl ?_) | (show AWL _ _ _ (⟨_, .call ⟨.builtin .len, _, _⟩, _, _, _, _⟩ :: _) _ _ _; refine awl_pw ?w (pv_len_t T0 rfl rfl rfl) rfl rfl ?_)); case w => first | exact wt_none rfl | exact wt_some' rfl rfl rfl rfl (by first | rfl | assumption | exact dT (by omega) | exact dF (by omega))) | refine awl_nil ?_)
  refine awl_pw (wt_none rfl) (pv_convert rfl rfl Try.underlying3 Try.underlying84 (wu64 (by omega))) rfl rfl ?_
  refine awl_pw (wt_none rfl) (pv_shl rfl rfl rfl (by omega) hsh) rfl rfl ?_
  repeat (first | ((first | (show AWL _ _ _ (⟨_, .binOp .sub _ _ _ _, _, _, _, _⟩ :: _) _ _ _; refine awl_pw ?w (pv_sub rfl rfl rfl (by first | assumption | exact wr64 (by omega))) rfl rfl ?_)); case w => first | exact wt_none rfl | exact wt_some' rfl rfl rfl rfl (by first | rfl | assumption | exact dT (by omega) | exact dF (by omega))))
  refine awl_hw (by first | exact wt_none rfl | exact wt_some' rfl rfl rfl rfl (by first | rfl | assumption | exact dT (by omega) | exact dF (by omega))) (st_call T0 (hbits) rfl rfl rfl rfl (by first | exact callee_lit | exact callee_v | exact callee_fn | assumption) (by solve | repeat' constructor) (by first | rfl | assumption) rfl ?_)
  rintro _ rfl
  repeat (first | refine awp_seq ?_ | refine awp_block ?_ | refine awp_region_lit rfl ?_ | ((first | (show AWL _ _ _ (⟨_, .assign _, _, _, _, _⟩ :: _) _ _ _; refine awl_pw ?w (pv_assign rfl rfl) rfl rfl ?_)); case w => first | exact wt_none rfl | exact wt_some' rfl rfl rfl rfl (by first | rfl | assumption | exact dT (by omega) | exact dF (by omega))) | refine awl_nil ?_)
  refine awp_loop (fun q s h => ∃ (m : Nat) (best : List Int), m ≤ P ∧ q = P - m ∧ best.length ≤ 16 ∧ Ext b.cons.length best 0 ∧ EnL b best ∧ (∀ m', m' < m → EnoughS b (fun i => m'.testBit i) → ¬ lessL (bitsL m' 16) best) ∧ s = [(1, .v (ptrV g1)), (3, .t (intsT true best)), (4, intA m)] ∧ h = [.cl g1 24 [intA b.houses, .t (consT false b.cons)]]) ?_ ⟨0, full, Nat.zero_le _, rfl, hfl, hfe, hfn, (fun j hj => absurd hj (Nat.not_lt_zero _)), rfl, rfl⟩ (by first | ((repeat' (first | exact True.intro | refine ⟨rfl, ?_⟩)); all_goals fail) | fail) (by solve | repeat' constructor)
  rintro q s h ⟨m, best, hmP, rfl, hb16, hbe, hbn, hall, rfl, rfl⟩
  repeat (first | refine awp_seq ?_ | refine awp_region_lit rfl ?_ | ((first | (show AWL _ _ _ (⟨_, .move _, _, _, _, _⟩ :: _) _ _ _; refine awl_pw ?w (pv_move rfl rfl) rfl rfl ?_) | (show AWL _ _ _ (⟨_, .load _ _, _, _, _, _⟩ :: _) _ _ _; refine awl_lw ?w (lv_cl1 T0 rfl rfl rfl (by solve | repeat' constructor) (by first | rfl | assumption)) rfl rfl rfl ?_) | (show AWL _ _ _ (⟨_, .fieldAddr _ _ _, _, _, _, _⟩ :: _) _ _ _; refine awl_pw ?w (pv_fa T0 rfl rfl rfl (by simp; rfl)) rfl rfl ?_) | (show AWL _ _ _ (⟨_, .call ⟨.builtin .len, _, _⟩, _, _, _, _⟩ :: _) _ _ _; refine awl_pw ?w (pv_len_t T0 rfl rfl rfl) rfl rfl ?_)); case w => first | exact wt_none rfl | exact wt_some' rfl rfl rfl rfl (by first | rfl | assumption | exact dT (by omega) | exact dF (by omega))))
  refine awl_pw (wt_none rfl) (pv_convert rfl rfl Try.underlying3 Try.underlying84 (wu64 (by omega))) rfl rfl ?_
  refine awl_pw (wt_none rfl) (pv_shl rfl rfl rfl (by omega) hsh) rfl rfl ?_
  by_cases hlt : m < P
  case neg =>
    repeat (first | refine awp_seq ?_ | refine awp_region_lit rfl ?_ | refine awp_exit ?_ | refine awp_ret ?_ | refine then_n ?_ | refine awp_cond_f rfl (by first | rfl | assumption | exact dF (by omega)) ?_ | ((first | (show AWL _ _ _ (⟨_, .move _, _, _, _, _⟩ :: _) _ _ _; refine awl_pw ?w (pv_move rfl rfl) rfl rfl ?_) | (show AWL _ _ _ (⟨_, .assign _, _, _, _, _⟩ :: _) _ _ _; refine awl_pw ?w (pv_assign rfl rfl) rfl rfl ?_) | (show AWL _ _ _ (⟨_, .binOp .lss _ _ _ _, _, _, _, _⟩ :: _) _ _ _; refine awl_pw ?w (pv_lss rfl rfl rfl) rfl rfl ?_)); case w => first | exact wt_none rfl | exact wt_some' rfl rfl rfl rfl (by first | rfl | assumption | exact dT (by omega) | exact dF (by omega))) | refine awl_nil ?_)
    exact body_p (.cons rfl .nil) ⟨best, hmin best hbe hbn fun m' hm' => hall m' (by omega), rfl⟩
  repeat (first | refine awp_seq ?_ | refine awp_block ?_ | refine awp_region_lit rfl ?_ | refine awp_skip ?_ | refine then_n ?_ | refine awp_cond_t rfl (by first | rfl | assumption | exact dT (by omega)) ?_ | ((first | (show AWL _ _ _ (⟨_, .move _, _, _, _, _⟩ :: _) _ _ _; refine awl_pw ?w (pv_move rfl rfl) rfl rfl ?_) | (show AWL _ _ _ (⟨_, .binOp .lss _ _ _ _, _, _, _, _⟩ :: _) _ _ _; refine awl_pw ?w (pv_lss rfl rfl rfl) rfl rfl ?_)); case w => first | exact wt_none rfl | exact wt_some' rfl rfl rfl rfl (by first | rfl | assumption | exact dT (by omega) | exact dF (by omega))) | refine awl_nil ?_)
  refine awl_hw (by first | exact wt_none rfl | exact wt_some' rfl rfl rfl rfl (by first | rfl | assumption | exact dT (by omega) | exact dF (by omega))) (st_call T0 (bits_p m (by omega)) rfl rfl rfl rfl (by first | exact callee_lit | exact callee_v | exact callee_fn | assumption) (by solve | repeat' constructor) (by first | rfl | assumption) rfl ?_)
  rintro _ rfl
  repeat (first | refine awp_seq ?_ | refine awp_region_lit rfl ?_ | ((first | (show AWL _ _ _ (⟨_, .move _, _, _, _, _⟩ :: _) _ _ _; refine awl_pw ?w (pv_move rfl rfl) rfl rfl ?_) | (show AWL _ _ _ (⟨_, .assign _, _, _, _, _⟩ :: _) _ _ _; refine awl_pw ?w (pv_assign rfl rfl) rfl rfl ?_)); case w => first | exact wt_none rfl | exact wt_some' rfl rfl rfl rfl (by first | rfl | assumption | exact dT (by omega) | exact dF (by omega))) | refine awl_nil ?_)
  have hml := hbl m 16
  have hme := hext m hlt
  have hmn := henl m hlt
  have hall' : ∀ best', (∀ m', m' < m → EnoughS b (fun i => m'.testBit i) → ¬ lessL (bitsL m' 16) best') → (EnoughS b (fun i => m.testBit i) → ¬ lessL (bitsL m 16) best') → ∀ m', m' < m + 1 → EnoughS b (fun i => m'.testBit i) → ¬ lessL (bitsL m' 16) best' := fun best' h1 h2 m' hm' => by
    by_cases c : m' = m
    · subst c; exact h2
    · exact h1 m' (by omega)
  generalize hB : bitsL m 16 = B at *
  obtain ⟨r, hr⟩ : ∃ r : Bool, r = true ↔ lessL B best := bool_of _
  obtain ⟨e, he⟩ : ∃ e : Bool, e = true ↔ EnoughS b (fun i => m.testBit i) := bool_of _
  refine awl_hw (by first | exact wt_none rfl | exact wt_some' rfl rfl rfl rfl (by first | rfl | assumption | exact dT (by omega) | exact dF (by omega))) (st_call T0 (less_q (by omega) (by omega) hr) rfl rfl rfl rfl (by first | exact callee_lit | exact callee_v | exact callee_fn | assumption) (by solve | repeat' constructor) (by first | rfl | assumption) rfl ?_)
  rintro _ rfl
  cases r
  · repeat (first | refine awp_region_lit rfl ?_ | refine awp_skip ?_ | refine then_n ?_ | refine awp_cond_f rfl (by first | rfl | assumption | exact dF (by omega)) ?_ | ((first | (show AWL _ _ _ (⟨_, .move _, _, _, _, _⟩ :: _) _ _ _; refine awl_pw ?w (pv_move rfl rfl) rfl rfl ?_) | (show AWL _ _ _ (⟨_, .assign _, _, _, _, _⟩ :: _) _ _ _; refine awl_pw ?w (pv_assign rfl rfl) rfl rfl ?_) | (show AWL _ _ _ (⟨_, .load _ _, _, _, _, _⟩ :: _) _ _ _; refine awl_lw ?w (lv_cla T0 rfl rfl rfl (by solve | repeat' constructor) rfl) rfl rfl rfl ?_) | (show AWL _ _ _ (⟨_, .binOp .add _ _ _ _, _, _, _, _⟩ :: _) _ _ _; refine awl_pw ?w (pv_add rfl rfl rfl (by first | assumption | exact wr64 (by omega))) rfl rfl ?_) | (show AWL _ _ _ (⟨_, .pick _ _ _, _, _, _, _⟩ :: _) _ _ _; refine awl_pw ?w (pv_pick_f rfl rfl (by first | rfl | assumption | exact dT (by omega) | exact dF (by omega)) rfl) rfl rfl ?_)); case w => first | exact wt_none rfl | exact wt_some' rfl rfl rfl rfl (by first | rfl | assumption | exact dT (by omega) | exact dF (by omega))) | refine awl_sk (wf_some rfl rfl rfl rfl (by first | rfl | assumption | exact dT (by omega) | exact dF (by omega))) rfl rfl ?_ | refine awl_nil ?_)
    refine rnd_n _ _ _ ?_ ⟨m + 1, best, hlt, rfl, hb16, hbe, hbn, hall' best hall fun _ h => ?_, rfl, rfl⟩ (by first | ((repeat' (first | exact True.intro | refine ⟨rfl, ?_⟩)); all_goals fail) | fail) (by solve | repeat' constructor)
    · omega
    · have := hr.2 h; cases this
  · repeat (first | ((first | (show AWL _ _ _ (⟨_, .move _, _, _, _, _⟩ :: _) _ _ _; refine awl_pw ?w (pv_move rfl rfl) rfl rfl ?_) | (show AWL _ _ _ (⟨_, .load _ _, _, _, _, _⟩ :: _) _ _ _; refine awl_lw ?w (lv_cla T0 rfl rfl rfl (by solve | repeat' constructor) rfl) rfl rfl rfl ?_)); case w => first | exact wt_none rfl | exact wt_some' rfl rfl rfl rfl (by first | rfl | assumption | exact dT (by omega) | exact dF (by omega))))
    refine awl_hw (by first | exact wt_none rfl | exact wt_some' rfl rfl rfl rfl (by first | rfl | assumption | exact dT (by omega) | exact dF (by omega))) (st_call T0 (enough_q false hv (by omega) he) rfl rfl rfl rfl (by first | exact callee_lit | exact callee_v | exact callee_fn | assumption) (by solve | repeat' constructor) (by first | rfl | assumption) rfl ?_)
    rintro _ rfl
    cases e
    · repeat (first | refine awp_region_lit rfl ?_ | refine awp_skip ?_ | refine then_n ?_ | refine awp_cond_f rfl (by first | rfl | assumption | exact dF (by omega)) ?_ | ((first | (show AWL _ _ _ (⟨_, .move _, _, _, _, _⟩ :: _) _ _ _; refine awl_pw ?w (pv_move rfl rfl) rfl rfl ?_) | (show AWL _ _ _ (⟨_, .assign _, _, _, _, _⟩ :: _) _ _ _; refine awl_pw ?w (pv_assign rfl rfl) rfl rfl ?_) | (show AWL _ _ _ (⟨_, .binOp .add _ _ _ _, _, _, _, _⟩ :: _) _ _ _; refine awl_pw ?w (pv_add rfl rfl rfl (by first | assumption | exact wr64 (by omega))) rfl rfl ?_) | (show AWL _ _ _ (⟨_, .pick _ _ _, _, _, _, _⟩ :: _) _ _ _; refine awl_pw ?w (pv_pick_t rfl rfl (by first | rfl | assumption | exact dT (by omega) | exact dF (by omega)) rfl) rfl rfl ?_)); case w => first | exact wt_none rfl | exact wt_some' rfl rfl rfl rfl (by first | rfl | assumption | exact dT (by omega) | exact dF (by omega))) | refine awl_nil ?_)
      refine rnd_n _ _ _ ?_ ⟨m + 1, best, hlt, rfl, hb16, hbe, hbn, hall' best hall fun h2 h => ?_, rfl, rfl⟩ (by first | ((repeat' (first | exact True.intro | refine ⟨rfl, ?_⟩)); all_goals fail) | fail) (by solve | repeat' constructor)
      · omega
      · have := he.2 h2; cases this
    · have hls := hr.1 rfl
      repeat (first | refine awp_region_lit rfl ?_ | refine then_n ?_ | refine awp_cond_t rfl (by first | rfl | assumption | exact dT (by omega)) ?_ | ((first | (show AWL _ _ _ (⟨_, .move _, _, _, _, _⟩ :: _) _ _ _; refine awl_pw ?w (pv_move rfl rfl) rfl rfl ?_) | (show AWL _ _ _ (⟨_, .assign _, _, _, _, _⟩ :: _) _ _ _; refine awl_pw ?w (pv_assign rfl rfl) rfl rfl ?_) | (show AWL _ _ _ (⟨_, .binOp .add _ _ _ _, _, _, _, _⟩ :: _) _ _ _; refine awl_pw ?w (pv_add rfl rfl rfl (by first | assumption | exact wr64 (by omega))) rfl rfl ?_) | (show AWL _ _ _ (⟨_, .pick _ _ _, _, _, _, _⟩ :: _) _ _ _; refine awl_pw ?w (pv_pick_t rfl rfl (by first | rfl | assumption | exact dT (by omega) | exact dF (by omega)) rfl) rfl rfl ?_)); case w => first | exact wt_none rfl | exact wt_some' rfl rfl rfl rfl (by first | rfl | assumption | exact dT (by omega) | exact dF (by omega))) | refine awl_nil ?_)
      refine rnd_n _ _ _ ?_ ⟨m + 1, B, hlt, rfl, hml, hme, hmn.2 (he.1 rfl), hall' B (fun m' hm' h2 h => hall m' hm' h2 (less_trans h hls)) (fun _ => less_irr B), rfl, rfl⟩ (by first | ((repeat' (first | exact True.intro | refine ⟨rfl, ?_⟩)); all_goals fail) | fail) (by solve | repeat' constructor)
      omega
end Go.Proofs.Ytilhflfbbfeakaa
