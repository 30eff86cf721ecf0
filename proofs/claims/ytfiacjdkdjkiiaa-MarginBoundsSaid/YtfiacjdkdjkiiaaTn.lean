/- Total of the reference: its walk. -/
import Derived.Test.YtfiacjdkdjkiiaaTn0
namespace Go.Proofs.Ytfiacjdkdjkiiaa
open Go Go.RowKit Go.Tl
set_option linter.unusedVariables false
set_option linter.unusedSimpArgs false
set_option maxRecDepth 100000
set_option maxHeartbeats 4000000
attribute [local irreducible] AWP AWL AOp PV LV AWT AWE
/-- the calls of the first loans on a day, together -/
def sumQ (b : BankD) (t : TruthD) (q n : Nat) : Int := sumI ((List.range q).map fun i => (allSt b.loans t.prices t.rates i n).call)
theorem sumQ_succ (b : BankD) (t : TruthD) (q n : Nat) : sumQ b t (q + 1) n = sumQ b t q n + (allSt b.loans t.prices t.rates q n).call := by
  unfold sumQ
  rw [show (List.range (q + 1)).map (fun i => (allSt b.loans t.prices t.rates i n).call) = (List.range q).map (fun i => (allSt b.loans t.prices t.rates i n).call) ++ [_] from range_step _ q, sumI_append]
  simp [sumI]
theorem callQ {b : BankD} {t : TruthD} (hv : Valid b) (ht : truthB b t = true) {i n : Nat} (hi : i < b.loans.length) (hn : n < b.days.length) : 0 ≤ (allSt b.loans t.prices t.rates i n).call ∧ (allSt b.loans t.prices t.rates i n).call ≤ 150000 := by
  have hd := hv.days
  have h1 := st_bd (hv.loan i hi).1 (truth_small hv ht) n
  have h2 := h1.2.1 (by omega)
  show 0 ≤ (stN _ t.prices t.rates n).call ∧ (stN _ t.prices t.rates n).call ≤ _
  omega
theorem sumQ_in {b : BankD} {t : TruthD} (hv : Valid b) (ht : truthB b t = true) {n : Nat} (hn : n < b.days.length) : ∀ q, q ≤ b.loans.length → 0 ≤ sumQ b t q n ∧ sumQ b t q n ≤ 150000 * q := fun q => by
  induction q with
  | zero => intro _; simp [sumQ, sumI]
  | succ q ih =>
    intro hq
    have h1 := ih (by omega)
    have h2 := callQ hv ht (i := q) (by omega) hn
    rw [sumQ_succ]; omega
def totR (b : BankD) (t : TruthD) : List Int := (List.range b.days.length).map fun n => sumQ b t b.loans.length n
theorem callsR_at {b : BankD} {t : TruthD} {i n : Nat} (hn : n < b.days.length) : (callsR b t i b.days.length).getD n 0 = (allSt b.loans t.prices t.rates i n).call := by
  simp [callsR, List.getD_eq_getElem?_getD, hn]
theorem total_r (b : BankD) (hv : Valid b) (hm : dP b.days ≤ 10000) (hmany : PCall Try.prog 63 [bankA false b] (fun r => r = intA (dP b.days))) : PCall Try.prog 31 [bankA false b]
    (fun r => r = .t (rngsT true (wdN (fun n => totR b (nthD b n)) (dP b.days).toNat))) := by
  have hd4 := hv.days
  have hlo := hv.loans
  have hp := dP_pos (okD hv)
  have hM : ((dP b.days).toNat : Int) = dP b.days := Int.toNat_of_nonneg (by omega)
  generalize hM2 : (dP b.days).toNat = M at *
  have hl1 : ∀ n : Nat, (totR b (nthD b n)).length = b.days.length := fun n => by simp [totR]
  refine acall_of_awp T0 Try.func31 rfl rfl rfl ?_
  repeat (first | refine awp_seq ?_ | refine awp_region_lit rfl ?_)
  refine awl_hw (wt_none rfl) (st_box rfl rfl rfl (by simp only [cellsA]; rfl) rfl rfl ?_)
  intro g1
  repeat (first | refine awp_seq ?_ | refine awp_block ?_ | refine awp_region_lit rfl ?_ | (show AWL _ _ _ (⟨_, .assign _, _, _, _, _⟩ :: _) _ _ _; refine awl_pw (wt_none rfl) (pv_assign rfl rfl) rfl rfl ?_) | refine awl_nil ?_)
  refine awp_ghost (ghost_none (d := 3) (t := rngsT true []) rfl fun _ _ => nil_rngs) ?_
  refine awp_loop (fun m s h => ∃ (n : Nat), n ≤ M ∧ m = M - n ∧ s = [(1, .v (.pointer (some ⟨g1, 0, none⟩))), (3, .t (rngsT true (wdN (fun n => totR b (nthD b n)) n))), (4, intA n)] ∧ h = [bnB g1 b]) ?_ ⟨0, Nat.zero_le _, rfl, rfl, rfl⟩ (by first | ((repeat' (first | exact True.intro | refine ⟨rfl, ?_⟩)); all_goals fail) | fail) (by solve | repeat' constructor)
  as_aux_lemma =>
    rintro m s h ⟨n, hn, rfl, rfl, rfl⟩
    by_cases hnt : n < M
    case neg =>
      obtain rfl : n = M := by omega
      repeat (first | refine awp_seq ?_ | refine awp_region_lit rfl ?_ | (show AWL _ _ _ (⟨_, .move _, _, _, _, _⟩ :: _) _ _ _; refine awl_pw (wt_none rfl) (pv_move rfl rfl) rfl rfl ?_) | (show AWL _ _ _ (⟨_, .load _ _, _, _, _, _⟩ :: _) _ _ _; refine awl_lw (wt_none rfl) (lv_cla T0 rfl rfl rfl (by solve | repeat' constructor) rfl) rfl rfl rfl ?_))
      refine awl_hw (wt_none rfl) (st_call T0 (hmany) rfl rfl rfl rfl (by first | exact callee_lit | exact callee_v | exact callee_fn) (by solve | repeat' constructor) rfl rfl ?_)
      rintro _ rfl
      repeat (first | refine awp_seq ?_ | refine awp_region_lit rfl ?_ | refine awp_exit ?_ | refine awp_ret ?_ | refine then_n ?_ | refine awp_cond_f rfl (by first | rfl | assumption | exact dF (by omega)) ?_ | (show AWL _ _ _ (⟨_, .move _, _, _, _, _⟩ :: _) _ _ _; refine awl_pw (wt_none rfl) (pv_move rfl rfl) rfl rfl ?_) | (show AWL _ _ _ (⟨_, .assign _, _, _, _, _⟩ :: _) _ _ _; refine awl_pw (wt_none rfl) (pv_assign rfl rfl) rfl rfl ?_) | (show AWL _ _ _ (⟨_, .binOp .lss _ _ _ _, _, _, _, _⟩ :: _) _ _ _; refine awl_pw (wt_none rfl) (pv_lss rfl rfl rfl) rfl rfl ?_) | refine awl_nil ?_)
      exact body_p (.cons rfl .nil) rfl
    have ht := nth_truth hv (n := (n : Int)) (by omega)
    generalize hT : nthD b n = t at *
    repeat (first | refine awp_seq ?_ | refine awp_region_lit rfl ?_ | (show AWL _ _ _ (⟨_, .move _, _, _, _, _⟩ :: _) _ _ _; refine awl_pw (wt_none rfl) (pv_move rfl rfl) rfl rfl ?_) | (show AWL _ _ _ (⟨_, .load _ _, _, _, _, _⟩ :: _) _ _ _; refine awl_lw (wt_none rfl) (lv_cla T0 rfl rfl rfl (by solve | repeat' constructor) rfl) rfl rfl rfl ?_))
    refine awl_hw (wt_none rfl) (st_call T0 (hmany) rfl rfl rfl rfl (by first | exact callee_lit | exact callee_v | exact callee_fn) (by solve | repeat' constructor) rfl rfl ?_)
    rintro _ rfl
    repeat (first | refine awp_seq ?_ | refine awp_block ?_ | refine awp_region_lit rfl ?_ | refine awp_skip ?_ | refine then_n ?_ | refine awp_cond_t rfl (by first | rfl | assumption | exact dT (by omega)) ?_ | (show AWL _ _ _ (⟨_, .load _ _, _, _, _, _⟩ :: _) _ _ _; refine awl_lw (wt_none rfl) (lv_cl1 T0 rfl rfl rfl (by solve | repeat' constructor) (by first | rfl | assumption)) rfl rfl rfl ?_) | (show AWL _ _ _ (⟨_, .fieldAddr _ _ _, _, _, _, _⟩ :: _) _ _ _; refine awl_pw (wt_none rfl) (pv_fa T0 rfl rfl rfl (by simp; rfl)) rfl rfl ?_) | (show AWL _ _ _ (⟨_, .binOp .lss _ _ _ _, _, _, _, _⟩ :: _) _ _ _; refine awl_pw (wt_none rfl) (pv_lss rfl rfl rfl) rfl rfl ?_) | (show AWL _ _ _ (⟨_, .call ⟨.builtin .len, _, _⟩, _, _, _, _⟩ :: _) _ _ _; refine awl_pw (wt_none rfl) (pv_len_t T0 rfl rfl rfl) rfl rfl ?_) | refine awl_nil ?_)
    refine awl_hw (wt_none rfl) (aop_make T0 rfl rfl rfl rfl rfl rfl rfl rfl (by omega) rfl ?_)
    intro g5
    repeat (first | refine awp_seq ?_ | refine awp_block ?_ | refine awp_region_lit rfl ?_ | (show AWL _ _ _ (⟨_, .assign _, _, _, _, _⟩ :: _) _ _ _; refine awl_pw (wt_none rfl) (pv_assign rfl rfl) rfl rfl ?_) | refine awl_nil ?_)
    have hrep : List.replicate b.days.length [AV.v (Value.int .i64 0)] = fRows (sumQ b t 0) b.days.length := by
      refine List.ext_getElem (by simp [fRows]) fun k h1 h2 => ?_
      simp [fRows, sumQ, sumI, intRow]
    rw [hrep]
    refine awp_loop (fun m s h => ∃ (i : Nat), i ≤ b.loans.length ∧ m = b.loans.length - i ∧ s = tnS g1 g5 b.days.length n i (.t (rngsT true (wdN (fun n => totR b (nthD b n)) n))) ∧
      h = [bnB g1 b, .rw (.slice (some ⟨g5, 0, none⟩) b.days.length b.days.length) 3 1 (fRows (sumQ b t i) b.days.length)]) ?_ ⟨0, Nat.zero_le _, rfl, rfl, rfl⟩ (by first | ((repeat' (first | exact True.intro | refine ⟨rfl, ?_⟩)); all_goals fail) | fail) (by solve | repeat' constructor)
    as_aux_lemma =>
      rintro m s h ⟨i, hi, rfl, rfl, rfl⟩
      by_cases hit : i < b.loans.length
      case neg =>
        obtain rfl : i = b.loans.length := by omega
        refine awp_ghost (ghost_freeze (E := 3) (sz := 1) (n := (totR b t).length) (rows := fRows (sumQ b t b.loans.length) b.days.length) (d := 5) (fun q => [.sc (.int .i64 ((totR b t).getD q 0))]) (by solve | repeat' constructor) rfl (by simp [fRows, totR]) (by rw [fRows_eq]; exact intRows_tree (totR b t))) ?_
        repeat (first | refine awp_seq ?_ | refine awp_region_lit rfl ?_ | refine awp_exit ?_ | refine then_n ?_ | refine awp_cond_f rfl (by first | rfl | assumption | exact dF (by omega)) ?_ | (show AWL _ _ _ (⟨_, .move _, _, _, _, _⟩ :: _) _ _ _; refine awl_pw (wt_none rfl) (pv_move rfl rfl) rfl rfl ?_) | (show AWL _ _ _ (⟨_, .load _ _, _, _, _, _⟩ :: _) _ _ _; refine awl_lw (wt_none rfl) (lv_cl1 T0 rfl rfl rfl (by solve | repeat' constructor) (by first | rfl | assumption)) rfl rfl rfl ?_) | (show AWL _ _ _ (⟨_, .fieldAddr _ _ _, _, _, _, _⟩ :: _) _ _ _; refine awl_pw (wt_none rfl) (pv_fa T0 rfl rfl rfl (by simp; rfl)) rfl rfl ?_) | (show AWL _ _ _ (⟨_, .binOp .lss _ _ _ _, _, _, _, _⟩ :: _) _ _ _; refine awl_pw (wt_none rfl) (pv_lss rfl rfl rfl) rfl rfl ?_) | (show AWL _ _ _ (⟨_, .binOp .eql _ _ _ _, _, _, _, _⟩ :: _) _ _ _; refine awl_pw (wt_none rfl) (pv_eql rfl rfl rfl) rfl rfl ?_) | (show AWL _ _ _ (⟨_, .call ⟨.builtin .len, _, _⟩, _, _, _, _⟩ :: _) _ _ _; refine awl_pw (wt_none rfl) (pv_len_t T0 rfl rfl rfl) rfl rfl ?_) | refine awl_nil ?_)
        refine awl_hw (wt_none rfl) (st_call T0 (wider_r true true (wdN (fun n => totR b (nthD b n)) n) (totR b t) (decide ((n : Int) = 0)) (by rw [← hT, hl1]; omega) (fun hz => by rw [← hT, hl1]; exact wdN_len hl1 n (by have := of_decide_eq_false hz; omega))) rfl rfl rfl rfl (by first | exact callee_lit | exact callee_v | exact callee_fn) (by solve | repeat' constructor) rfl rfl ?_)
        rintro _ rfl
        repeat (first | refine awp_region_lit rfl ?_ | (show AWL _ _ _ (⟨_, .move _, _, _, _, _⟩ :: _) _ _ _; refine awl_pw (wt_none rfl) (pv_move rfl rfl) rfl rfl ?_) | (show AWL _ _ _ (⟨_, .assign _, _, _, _, _⟩ :: _) _ _ _; refine awl_pw (wt_none rfl) (pv_assign rfl rfl) rfl rfl ?_) | (show AWL _ _ _ (⟨_, .binOp .add _ _ _ _, _, _, _, _⟩ :: _) _ _ _; refine awl_pw (wt_none rfl) (pv_add rfl rfl rfl (by first | assumption | exact wr64 (by omega))) rfl rfl ?_) | refine awl_nil ?_)
        have hw : wdL (wdN (fun n => totR b (nthD b n)) n) (totR b t) (decide ((n : Int) = 0)) = wdN (fun n => totR b (nthD b n)) (n + 1) := by rw [← hT]; rfl
        rw [hw]
        refine rnd_n _ _ _ ?_ ⟨n + 1, hnt, rfl, rfl, rfl⟩ (by first | ((repeat' (first | exact True.intro | refine ⟨rfl, ?_⟩)); all_goals fail) | fail) (by solve | repeat' constructor)
        omega
      repeat (first | refine awp_seq ?_ | refine awp_block ?_ | refine awp_region_lit rfl ?_ | refine awp_skip ?_ | refine then_n ?_ | refine awp_cond_t rfl (by first | rfl | assumption | exact dT (by omega)) ?_ | (show AWL _ _ _ (⟨_, .move _, _, _, _, _⟩ :: _) _ _ _; refine awl_pw (wt_none rfl) (pv_move rfl rfl) rfl rfl ?_) | (show AWL _ _ _ (⟨_, .load _ _, _, _, _, _⟩ :: _) _ _ _; refine awl_lw (wt_none rfl) (lv_cl1 T0 rfl rfl rfl (by solve | repeat' constructor) (by first | rfl | assumption)) rfl rfl rfl ?_) | (show AWL _ _ _ (⟨_, .fieldAddr _ _ _, _, _, _, _⟩ :: _) _ _ _; refine awl_pw (wt_none rfl) (pv_fa T0 rfl rfl rfl (by simp; rfl)) rfl rfl ?_) | (show AWL _ _ _ (⟨_, .binOp .lss _ _ _ _, _, _, _, _⟩ :: _) _ _ _; refine awl_pw (wt_none rfl) (pv_lss rfl rfl rfl) rfl rfl ?_) | (show AWL _ _ _ (⟨_, .call ⟨.builtin .len, _, _⟩, _, _, _, _⟩ :: _) _ _ _; refine awl_pw (wt_none rfl) (pv_len_t T0 rfl rfl rfl) rfl rfl ?_) | refine awl_nil ?_)
      refine awp_cut _ (awp_weak (by first | ((repeat' (first | exact True.intro | refine ⟨rfl, ?_⟩)); all_goals fail) | fail) (by solve | repeat' constructor) (tn_9 hv hit (by omega) rfl)) ?_
      rintro s h ⟨rfl, rfl⟩
      rw [hT]
      repeat (first | refine awp_seq ?_ | refine awp_block ?_ | refine awp_region_lit rfl ?_ | (show AWL _ _ _ (⟨_, .assign _, _, _, _, _⟩ :: _) _ _ _; refine awl_pw (wt_none rfl) (pv_assign rfl rfl) rfl rfl ?_) | refine awl_nil ?_)
      have hfz : fRows (sumQ b t i) b.days.length = fRows (fun k => if k < 0 then sumQ b t (i + 1) k else sumQ b t i k) b.days.length := by
        rw [show (fun k => if k < 0 then sumQ b t (i + 1) k else sumQ b t i k) = sumQ b t i from funext fun k => if_neg (by omega)]
      rw [hfz]
      have hcl : (callsR b t i b.days.length).length = b.days.length := by simp [callsR]
      refine awp_loop (fun m s h => ∃ (j : Nat), j ≤ b.days.length ∧ m = b.days.length - j ∧ s = [(8, .t (intsT true (callsR b t i b.days.length))), (10, intA j)] ++ tnS g1 g5 b.days.length n i (.t (rngsT true (wdN (fun n => totR b (nthD b n)) n))) ∧
        h = [bnB g1 b, .rw (.slice (some ⟨g5, 0, none⟩) b.days.length b.days.length) 3 1 (fRows (fun k => if k < j then sumQ b t (i + 1) k else sumQ b t i k) b.days.length)]) ?_ ⟨0, Nat.zero_le _, rfl, rfl, rfl⟩ (by first | ((repeat' (first | exact True.intro | refine ⟨rfl, ?_⟩)); all_goals fail) | fail) (by solve | repeat' constructor)
      as_aux_lemma =>
        rintro m s h ⟨j, hj, rfl, rfl, rfl⟩
        simp only [List.cons_append, List.nil_append]
        by_cases hjt : j < b.days.length
        case neg =>
          obtain rfl : j = b.days.length := by omega
          have hfe : fRows (fun k => if k < b.days.length then sumQ b t (i + 1) k else sumQ b t i k) b.days.length = fRows (sumQ b t (i + 1)) b.days.length := by
            unfold fRows
            exact List.map_congr_left fun k hk => by rw [List.mem_range] at hk; show intRow (if k < b.days.length then _ else _) = intRow _; rw [if_pos hk]
          rw [hfe]
          repeat (first | refine awp_seq ?_ | refine awp_region_lit rfl ?_ | refine awp_exit ?_ | refine then_n ?_ | refine awp_cond_f rfl (by first | rfl | assumption | exact dF (by omega)) ?_ | (show AWL _ _ _ (⟨_, .move _, _, _, _, _⟩ :: _) _ _ _; refine awl_pw (wt_none rfl) (pv_move rfl rfl) rfl rfl ?_) | (show AWL _ _ _ (⟨_, .assign _, _, _, _, _⟩ :: _) _ _ _; refine awl_pw (wt_none rfl) (pv_assign rfl rfl) rfl rfl ?_) | (show AWL _ _ _ (⟨_, .binOp .add _ _ _ _, _, _, _, _⟩ :: _) _ _ _; refine awl_pw (wt_none rfl) (pv_add rfl rfl rfl (by first | assumption | exact wr64 (by omega))) rfl rfl ?_) | (show AWL _ _ _ (⟨_, .binOp .lss _ _ _ _, _, _, _, _⟩ :: _) _ _ _; refine awl_pw (wt_none rfl) (pv_lss rfl rfl rfl) rfl rfl ?_) | (show AWL _ _ _ (⟨_, .call ⟨.builtin .len, _, _⟩, _, _, _, _⟩ :: _) _ _ _; refine awl_pw (wt_none rfl) (pv_len_t T0 rfl rfl rfl) rfl rfl ?_) | refine awl_nil ?_)
          refine rnd_n _ _ _ ?_ ⟨i + 1, hit, rfl, rfl, rfl⟩ (by first | ((repeat' (first | exact True.intro | refine ⟨rfl, ?_⟩)); all_goals fail) | fail) (by solve | repeat' constructor)
          omega
        have hq := sumQ_in hv ht hjt i (by omega)
        have hc := callQ hv ht hit hjt
        have hca := callsR_at (b := b) (t := t) (i := i) hjt
        repeat (first | refine awp_seq ?_ | refine awp_block ?_ | refine awp_region_lit rfl ?_ | refine awp_skip ?_ | refine then_n ?_ | refine awp_cond_t rfl (by first | rfl | assumption | exact dT (by omega)) ?_ | (show AWL _ _ _ (⟨_, .move _, _, _, _, _⟩ :: _) _ _ _; refine awl_pw (wt_none rfl) (pv_move rfl rfl) rfl rfl ?_) | (show AWL _ _ _ (⟨_, .binOp .lss _ _ _ _, _, _, _, _⟩ :: _) _ _ _; refine awl_pw (wt_none rfl) (pv_lss rfl rfl rfl) rfl rfl ?_) | (show AWL _ _ _ (⟨_, .call ⟨.builtin .len, _, _⟩, _, _, _, _⟩ :: _) _ _ _; refine awl_pw (wt_none rfl) (pv_len_t T0 rfl rfl rfl) rfl rfl ?_) | refine awl_nil ?_)
        refine awp_cutB _ (awp_weak (by first | ((repeat' (first | exact True.intro | refine ⟨rfl, ?_⟩)); all_goals fail) | fail) (by solve | repeat' constructor) (tn_13 (cs := callsR b t i b.days.length) (f := fun k => if k < j then sumQ b t (i + 1) k else sumQ b t i k) (f' := fun k => if k < j + 1 then sumQ b t (i + 1) k else sumQ b t i k) (by omega) hjt (by omega) (by rw [if_neg (by omega)]; omega) (by omega) (fun k hk => ?_) rfl)) ?_
        · show (if k < j + 1 then sumQ b t (i + 1) k else sumQ b t i k) = if k = j then (if j < j then sumQ b t (i + 1) j else sumQ b t i j) + _ else if k < j then sumQ b t (i + 1) k else sumQ b t i k
          by_cases e : k = j
          · subst e
            rw [if_pos (by omega), if_pos rfl, if_neg (by omega), hca, sumQ_succ]
          · rw [if_neg e]
            by_cases e2 : k < j
            · rw [if_pos (by omega), if_pos e2]
            · rw [if_neg (by omega), if_neg e2]
        rintro s h ⟨rfl, rfl⟩
        repeat (first | refine awp_region_lit rfl ?_ | (show AWL _ _ _ (⟨_, .move _, _, _, _, _⟩ :: _) _ _ _; refine awl_pw (wt_none rfl) (pv_move rfl rfl) rfl rfl ?_) | (show AWL _ _ _ (⟨_, .assign _, _, _, _, _⟩ :: _) _ _ _; refine awl_pw (wt_none rfl) (pv_assign rfl rfl) rfl rfl ?_) | (show AWL _ _ _ (⟨_, .binOp .add _ _ _ _, _, _, _, _⟩ :: _) _ _ _; refine awl_pw (wt_none rfl) (pv_add rfl rfl rfl (by first | assumption | exact wr64 (by omega))) rfl rfl ?_) | refine awl_nil ?_)
        refine rnd_n _ _ _ ?_ ⟨j + 1, hjt, rfl, rfl, rfl⟩ (by first | ((repeat' (first | exact True.intro | refine ⟨rfl, ?_⟩)); all_goals fail) | fail) (by solve | repeat' constructor)
        omega
end Go.Proofs.Ytfiacjdkdjkiiaa
