/- The law MarginTruth: its walk. -/
import Derived.Test.YtfiacjdkdjkiiaaTh0
import Derived.Test.YtfiacjdkdjkiiaaPk
import Derived.Test.YtfiacjdkdjkiiaaGRd
namespace Go.Proofs.Ytfiacjdkdjkiiaa
open Go Go.RowKit Go.Tl
set_option linter.unusedVariables false
set_option linter.unusedSimpArgs false
set_option maxRecDepth 100000
set_option maxHeartbeats 20000000
attribute [local irreducible] AWP AWL AOp PV LV AWT AWE
/-- at the end of a day a loan has its margin -/
theorem after_margin {l : LoanD} (hl : SmallL l) (d r : Int) (ps : List Int) : (stepN l d r ps).after * (100 + l.margin) ≤ 100 * dot l.shares ps := by
  rw [stepN_after]
  have hm := hl.2.2.1
  have h1 : min (befN d r) (limN (dot l.shares ps) l.margin) ≤ limN (dot l.shares ps) l.margin := Int.min_le_right _ _
  have h2 : limN (dot l.shares ps) l.margin * (100 + l.margin) ≤ 100 * dot l.shares ps := Int.ediv_mul_le _ (by omega)
  exact Int.le_trans (Int.mul_le_mul_of_nonneg_right h1 (by omega)) h2
theorem st_margin {l : LoanD} (hl : SmallL l) (ps : List (List Int)) (rs : List Int) (n : Nat) : (stN l ps rs n).after * (100 + l.margin) ≤ 100 * dot l.shares (ps.getD n []) := by
  cases n with
  | zero => exact after_margin hl _ _ _
  | succ n => rw [st_succ]; exact after_margin hl _ _ _
def sumC (b : BankD) (t : TruthD) (q n : Nat) : Int := sumI ((List.range q).map fun i => (allSt b.loans t.prices t.rates i n).call)
theorem sumC_succ (b : BankD) (t : TruthD) (q n : Nat) : sumC b t (q + 1) n = sumC b t q n + (allSt b.loans t.prices t.rates q n).call := by
  unfold sumC
  rw [show (List.range (q + 1)).map (fun i => (allSt b.loans t.prices t.rates i n).call) = (List.range q).map (fun i => (allSt b.loans t.prices t.rates i n).call) ++ [_] from range_step _ q, sumI_append]
  simp [sumI]
theorem truthlaw_p (hA : PCall Try.prog 18 [] (fun r => r = boolA true)) (b : BankD) (ws : List Int) (hd1 : b.days.length ≤ 9223372036854775807) (hd2 : b.loans.length ≤ 9223372036854775807) (hw : Words ws) (hl : ws.length ≤ 9223372036854775807) :
    PCall Try.prog 7 [bankA false b, .t (wordsT false ws)] (fun r => r = boolA true) := by
  refine acall_of_awp T0 Try.func7 rfl rfl rfl ?_
  repeat (first | refine awp_seq ?_ | refine awp_region_lit rfl ?_)
  refine awl_hw (by first | exact wt_none rfl | exact wt_some' rfl rfl rfl rfl (by first | rfl | assumption | exact dT (by omega) | exact dF (by omega))) (st_box rfl rfl rfl (by simp only [cellsA]; rfl) rfl rfl ?_)
  intro g2
  repeat (first | refine awp_seq ?_ | refine awp_region_lit rfl ?_ | ((first | (show AWL _ _ _ (⟨_, .assign _, _, _, _, _⟩ :: _) _ _ _; refine awl_pw ?w (pv_assign rfl rfl) rfl rfl ?_) | (show AWL _ _ _ (⟨_, .load _ _, _, _, _, _⟩ :: _) _ _ _; refine awl_lw ?w (lv_cla T0 rfl rfl rfl (by solve | repeat' constructor) rfl) rfl rfl rfl ?_)); case w => first | exact wt_none rfl | exact wt_some' rfl rfl rfl rfl (by first | rfl | assumption | exact dT (by omega) | exact dF (by omega))) | refine awl_nil ?_)
  cases hr : readyB b
  · refine awl_hw (by first | exact wt_none rfl | exact wt_some' rfl rfl rfl rfl (by first | rfl | assumption | exact dT (by omega) | exact dF (by omega))) (st_call T0 (ready_w hd1 hd2 hr) rfl rfl rfl rfl (by first | exact callee_lit | exact callee_v | exact callee_fn) (by solve | repeat' constructor) rfl rfl ?_)
    rintro _ rfl
    repeat (first | refine awp_seq ?_ | refine awp_region_lit rfl ?_ | refine then_n ?_ | refine awp_cond_t rfl (by first | rfl | assumption | exact dT (by omega)) ?_ | ((first | (show AWL _ _ _ (⟨_, .unOp .not _ _, _, _, _, _⟩ :: _) _ _ _; refine awl_pw ?w (pv_not rfl rfl) rfl rfl ?_)); case w => first | exact wt_none rfl | exact wt_some' rfl rfl rfl rfl (by first | rfl | assumption | exact dT (by omega) | exact dF (by omega))) | refine awl_nil ?_)
    refine awl_hw (by first | exact wt_none rfl | exact wt_some' rfl rfl rfl rfl (by first | rfl | assumption | exact dT (by omega) | exact dF (by omega))) (st_call T0 (hA) rfl rfl rfl rfl (by first | exact callee_lit | exact callee_v | exact callee_fn) (by solve | repeat' constructor) rfl rfl ?_)
    rintro _ rfl
    repeat (first | refine awp_ret ?_ | refine then_r ?_ | ((first | (show AWL _ _ _ (⟨_, .assign _, _, _, _, _⟩ :: _) _ _ _; refine awl_pw ?w (pv_assign rfl rfl) rfl rfl ?_)); case w => first | exact wt_none rfl | exact wt_some' rfl rfl rfl rfl (by first | rfl | assumption | exact dT (by omega) | exact dF (by omega))) | refine awl_nil ?_)
    exact body_p (.cons rfl .nil) rfl
  refine awl_hw (by first | exact wt_none rfl | exact wt_some' rfl rfl rfl rfl (by first | rfl | assumption | exact dT (by omega) | exact dF (by omega))) (st_call T0 (ready_w hd1 hd2 hr) rfl rfl rfl rfl (by first | exact callee_lit | exact callee_v | exact callee_fn) (by solve | repeat' constructor) rfl rfl ?_)
  rintro _ rfl
  as_aux_lemma =>
    obtain ⟨hv, hS, hf⟩ := ready_v hr
    have hd := hv.days
    have hlo4 := hv.loans
    have hst4 := hv.st
    have ht := picked_truth hv hw
    repeat (first | refine awp_seq ?_ | refine awp_region_lit rfl ?_ | refine awp_skip ?_ | refine then_n ?_ | refine awp_cond_f rfl (by first | rfl | assumption | exact dF (by omega)) ?_ | ((first | (show AWL _ _ _ (⟨_, .move _, _, _, _, _⟩ :: _) _ _ _; refine awl_pw ?w (pv_move rfl rfl) rfl rfl ?_) | (show AWL _ _ _ (⟨_, .load _ _, _, _, _, _⟩ :: _) _ _ _; refine awl_lw ?w (lv_cla T0 rfl rfl rfl (by solve | repeat' constructor) rfl) rfl rfl rfl ?_) | (show AWL _ _ _ (⟨_, .unOp .not _ _, _, _, _, _⟩ :: _) _ _ _; refine awl_pw ?w (pv_not rfl rfl) rfl rfl ?_)); case w => first | exact wt_none rfl | exact wt_some' rfl rfl rfl rfl (by first | rfl | assumption | exact dT (by omega) | exact dF (by omega))) | refine awl_nil ?_)
    refine awl_hw (by first | exact wt_none rfl | exact wt_some' rfl rfl rfl rfl (by first | rfl | assumption | exact dT (by omega) | exact dF (by omega))) (st_call T0 (picked_p false false b ws hv hw hl) rfl rfl rfl rfl (by first | exact callee_lit | exact callee_v | exact callee_fn) (by solve | repeat' constructor) rfl rfl ?_)
    rintro _ rfl
    generalize pickedD b ws = t at *
    clear hw hl hr
    skip
    refine awl_hw (by first | exact wt_none rfl | exact wt_some' rfl rfl rfl rfl (by first | rfl | assumption | exact dT (by omega) | exact dF (by omega))) (st_alloc T0 rfl rfl rfl rfl (by simp only [Value.cells, List.toList_toArray, List.map_cons, List.map_nil]; rfl) ?_)
    intro g5
    repeat (first | refine awp_seq ?_ | (show AWL _ _ _ (⟨_, .store _ _ _, _, _, _, _⟩ :: _) _ _ _; refine awl_hw (by first | exact wt_none rfl | exact wt_some' rfl rfl rfl rfl (by first | rfl | assumption | exact dT (by omega) | exact dF (by omega))) (st_store T0 rfl rfl rfl rfl rfl (by simp only [cellsA]; rfl) rfl rfl rfl (by solve | repeat' constructor) (by solve | repeat' constructor) trivial ?_)) | refine awl_nil ?_)
    refine awp_cut _ (awp_weak (by first | ((repeat' (first | exact True.intro | refine ⟨rfl, ?_⟩)); all_goals fail) | fail) (by solve | repeat' constructor) (th_4 (g2 := g2) (g5 := g5) hv hS hf ht rfl)) ?_
    as_aux_lemma =>
      rintro s h ⟨rfl, rfl⟩
      obtain ⟨l1, l2⟩ := truthB_len ht
      have lT : (totalL b).length = b.days.length := by simp [totalL]
      have eT : ∀ n, n < b.days.length → (totalL b).getD n default = totalN b n := fun n hn => range_getD hn
      have lD : (debtsP b t b.loans.length).length = b.loans.length := by simp [debtsP]
      have lC : (callsP b t b.loans.length).length = b.loans.length := by simp [callsP]
      have lD1 : ∀ q, q < b.loans.length → ((debtsP b t b.loans.length).getD q []).length = b.days.length := fun q hq => debts_len hq
      have lC1 : ∀ q, q < b.loans.length → ((callsP b t b.loans.length).getD q []).length = b.days.length := fun q hq => calls_len hq
      have eD : ∀ q n, q < b.loans.length → n < b.days.length → ((debtsP b t b.loans.length).getD q []).getD n 0 = (allSt b.loans t.prices t.rates q n).after := fun q n hq hn => debts_at hq hn
      have eC : ∀ q n, q < b.loans.length → n < b.days.length → ((callsP b t b.loans.length).getD q []).getD n 0 = (allSt b.loans t.prices t.rates q n).call := fun q n hq hn => calls_at hq hn
      generalize debtsP b t b.loans.length = D at *
      generalize callsP b t b.loans.length = C at *
      have hTs := truth_small hv ht
      repeat (first | refine awp_seq ?_ | refine awp_region_lit rfl ?_ | ((first | (show AWL _ _ _ (⟨_, .load _ _, _, _, _, _⟩ :: _) _ _ _; refine awl_lw ?w (lv_cla T0 rfl rfl rfl (by solve | repeat' constructor) rfl) rfl rfl rfl ?_)); case w => first | exact wt_none rfl | exact wt_some' rfl rfl rfl rfl (by first | rfl | assumption | exact dT (by omega) | exact dF (by omega))))
      refine awl_hw (by first | exact wt_none rfl | exact wt_some' rfl rfl rfl rfl (by first | rfl | assumption | exact dT (by omega) | exact dF (by omega))) (st_call T0 (bank_p true b hS) rfl rfl rfl rfl (by first | exact callee_lit | exact callee_v | exact callee_fn) (by solve | repeat' constructor) rfl rfl ?_)
      rintro _ rfl
      skip
      refine awl_hw (by first | exact wt_none rfl | exact wt_some' rfl rfl rfl rfl (by first | rfl | assumption | exact dT (by omega) | exact dF (by omega))) (st_call T0 (total_p b hS hf) rfl rfl rfl rfl (by first | exact callee_lit | exact callee_v | exact callee_fn) (by solve | repeat' constructor) rfl rfl ?_)
      rintro _ rfl
      generalize totalL b = T at *
      repeat (first | refine awp_seq ?_ | refine awp_region_lit rfl ?_ | refine awp_skip ?_ | refine then_n ?_ | refine awp_cond_f rfl (by first | rfl | assumption | exact dF (by omega)) ?_ | ((first | (show AWL _ _ _ (⟨_, .move _, _, _, _, _⟩ :: _) _ _ _; refine awl_pw ?w (pv_move rfl rfl) rfl rfl ?_) | (show AWL _ _ _ (⟨_, .assign _, _, _, _, _⟩ :: _) _ _ _; refine awl_pw ?w (pv_assign rfl rfl) rfl rfl ?_) | (show AWL _ _ _ (⟨_, .load _ _, _, _, _, _⟩ :: _) _ _ _; refine awl_lw ?w (lv_cl1 T0 rfl rfl rfl (by solve | repeat' constructor) (by first | rfl | assumption)) rfl rfl rfl ?_) | (show AWL _ _ _ (⟨_, .fieldAddr _ _ _, _, _, _, _⟩ :: _) _ _ _; refine awl_pw ?w (pv_fa T0 rfl rfl rfl (by simp; rfl)) rfl rfl ?_) | (show AWL _ _ _ (⟨_, .binOp .neq _ _ _ _, _, _, _, _⟩ :: _) _ _ _; refine awl_pw ?w (pv_neq rfl rfl rfl) rfl rfl ?_) | (show AWL _ _ _ (⟨_, .call ⟨.builtin .len, _, _⟩, _, _, _, _⟩ :: _) _ _ _; refine awl_pw ?w (pv_len_t T0 rfl rfl rfl) rfl rfl ?_) | (show AWL _ _ _ (⟨_, .extract _ _, _, _, _, _⟩ :: _) _ _ _; refine awl_pw ?w (pv_extract rfl rfl rfl) rfl rfl ?_) | (show AWL _ _ _ (⟨_, .pick _ _ _, _, _, _, _⟩ :: _) _ _ _; refine awl_pw ?w (pv_pick_f rfl rfl (by first | rfl | assumption | exact dT (by omega) | exact dF (by omega)) rfl) rfl rfl ?_)); case w => first | exact wt_none rfl | exact wt_some' rfl rfl rfl rfl (by first | rfl | assumption | exact dT (by omega) | exact dF (by omega))) | refine awl_nil ?_)
      refine awl_hw (by first | exact wt_none rfl | exact wt_some' rfl rfl rfl rfl (by first | rfl | assumption | exact dT (by omega) | exact dF (by omega))) (aop_make T0 rfl rfl rfl rfl rfl rfl rfl rfl (by omega) rfl ?_)
      intro g76
      repeat (first | refine awp_seq ?_ | refine awp_block ?_ | refine awp_region_lit rfl ?_ | ((first | (show AWL _ _ _ (⟨_, .assign _, _, _, _, _⟩ :: _) _ _ _; refine awl_pw ?w (pv_assign rfl rfl) rfl rfl ?_)); case w => first | exact wt_none rfl | exact wt_some' rfl rfl rfl rfl (by first | rfl | assumption | exact dT (by omega) | exact dF (by omega))) | refine awl_nil ?_)
      have hrep : List.replicate b.days.length [AV.v (Value.int .i64 0)] = fRows (fun k => sumC b t 0 k) b.days.length := by
        refine List.ext_getElem (by simp [fRows]) fun k h1 h2 => ?_
        simp [fRows, sumC, sumI, intRow]
      rw [hrep]
      have hsB : ∀ q n, q ≤ b.loans.length → n < b.days.length → 0 ≤ sumC b t q n ∧ sumC b t q n ≤ 50000000 := fun q n hq hn => by
        have h1 := sum_in hv ht hq hn
        have h2 := sums_bd hv n q hn hq
        unfold sumC; omega
      as_aux_lemma =>
        refine awp_loop (fun m s h => ∃ (i : Nat), i ≤ b.loans.length ∧ m = b.loans.length - i ∧ s = [(2, .v (.pointer (some ⟨g2, 0, none⟩))), (5, .v (.pointer (some ⟨g5, 0, none⟩))), (6, .t (rowsT false D)), (7, .t (rowsT false C)), (9, .t (rngsT false T)), (11, .v (.slice (some ⟨g76, 0, none⟩) b.days.length b.days.length)), (12, intA i)] ∧
          h = [thB g2 b, thT g5 t, .rw (.slice (some ⟨g76, 0, none⟩) b.days.length b.days.length) 3 1 (fRows (sumC b t i) b.days.length)]) ?_ ⟨0, Nat.zero_le _, rfl, rfl, rfl⟩ (by first | ((repeat' (first | exact True.intro | refine ⟨rfl, ?_⟩)); all_goals fail) | fail) (by solve | repeat' constructor)
        as_aux_lemma =>
          rintro m s h ⟨i, hi, rfl, rfl, rfl⟩
          by_cases hit : i < b.loans.length
          case neg =>
            have ei : i = b.loans.length := by omega
            repeat (first | refine awp_seq ?_ | refine awp_block ?_ | refine awp_region_lit rfl ?_ | refine awp_exit ?_ | refine then_n ?_ | refine awp_cond_f rfl (by first | rfl | assumption | exact dF (by omega)) ?_ | ((first | (show AWL _ _ _ (⟨_, .move _, _, _, _, _⟩ :: _) _ _ _; refine awl_pw ?w (pv_move rfl rfl) rfl rfl ?_) | (show AWL _ _ _ (⟨_, .assign _, _, _, _, _⟩ :: _) _ _ _; refine awl_pw ?w (pv_assign rfl rfl) rfl rfl ?_) | (show AWL _ _ _ (⟨_, .load _ _, _, _, _, _⟩ :: _) _ _ _; refine awl_lw ?w (lv_cl1 T0 rfl rfl rfl (by solve | repeat' constructor) (by first | rfl | assumption)) rfl rfl rfl ?_) | (show AWL _ _ _ (⟨_, .fieldAddr _ _ _, _, _, _, _⟩ :: _) _ _ _; refine awl_pw ?w (pv_fa T0 rfl rfl rfl (by simp; rfl)) rfl rfl ?_) | (show AWL _ _ _ (⟨_, .binOp .lss _ _ _ _, _, _, _, _⟩ :: _) _ _ _; refine awl_pw ?w (pv_lss rfl rfl rfl) rfl rfl ?_) | (show AWL _ _ _ (⟨_, .call ⟨.builtin .len, _, _⟩, _, _, _, _⟩ :: _) _ _ _; refine awl_pw ?w (pv_len_t T0 rfl rfl rfl) rfl rfl ?_)); case w => first | exact wt_none rfl | exact wt_some' rfl rfl rfl rfl (by first | rfl | assumption | exact dT (by omega) | exact dF (by omega))) | refine awl_nil ?_)
            refine awp_loop (fun m s h => ∃ (n : Nat), n ≤ b.days.length ∧ m = b.days.length - n ∧ s = [(9, .t (rngsT false T)), (11, .v (.slice (some ⟨g76, 0, none⟩) b.days.length b.days.length)), (20, intA n)] ∧
              h = [.rw (.slice (some ⟨g76, 0, none⟩) b.days.length b.days.length) 3 1 (fRows (sumC b t i) b.days.length)]) ?_ ⟨0, Nat.zero_le _, rfl, rfl, rfl⟩ (by first | ((repeat' (first | exact True.intro | refine ⟨rfl, ?_⟩)); all_goals fail) | fail) (by solve | repeat' constructor)
            as_aux_lemma =>
              rintro m s h ⟨n, hn, rfl, rfl, rfl⟩
              by_cases hnt : n < b.days.length
              · have hin : inB (sumC b t i n) (T.getD n default).lo (T.getD n default).hi = true := by
                  rw [eT n hnt, ei]
                  exact inB_iff.2 (sum_in hv ht (Nat.le_refl _) hnt)
                repeat (first | refine awp_seq ?_ | refine awp_block ?_ | refine awp_region_lit rfl ?_ | refine awp_skip ?_ | refine then_n ?_ | refine awp_cond_t rfl (by first | rfl | assumption | exact dT (by omega)) ?_ | ((first | (show AWL _ _ _ (⟨_, .move _, _, _, _, _⟩ :: _) _ _ _; refine awl_pw ?w (pv_move rfl rfl) rfl rfl ?_) | (show AWL _ _ _ (⟨_, .binOp .lss _ _ _ _, _, _, _, _⟩ :: _) _ _ _; refine awl_pw ?w (pv_lss rfl rfl rfl) rfl rfl ?_) | (show AWL _ _ _ (⟨_, .call ⟨.builtin .len, _, _⟩, _, _, _, _⟩ :: _) _ _ _; refine awl_pw ?w (pv_len_v T0 rfl rfl rfl) rfl rfl ?_)); case w => first | exact wt_none rfl | exact wt_some' rfl rfl rfl rfl (by first | rfl | assumption | exact dT (by omega) | exact dF (by omega))) | refine awl_nil ?_)
                refine awp_cut _ (awp_weak (by first | ((repeat' (first | exact True.intro | refine ⟨rfl, ?_⟩)); all_goals fail) | fail) (by solve | repeat' constructor) (th_26 (b := b) (T := T) (ga := g76) (f := sumC b t i) (by omega) hnt hin rfl)) ?_
                rintro s h ⟨rfl, rfl⟩
                repeat (first | refine awp_region_lit rfl ?_ | refine awp_skip ?_ | refine awp_cond_f rfl (by first | rfl | assumption | exact dF (by omega)) ?_ | ((first | (show AWL _ _ _ (⟨_, .move _, _, _, _, _⟩ :: _) _ _ _; refine awl_pw ?w (pv_move rfl rfl) rfl rfl ?_) | (show AWL _ _ _ (⟨_, .assign _, _, _, _, _⟩ :: _) _ _ _; refine awl_pw ?w (pv_assign rfl rfl) rfl rfl ?_) | (show AWL _ _ _ (⟨_, .binOp .add _ _ _ _, _, _, _, _⟩ :: _) _ _ _; refine awl_pw ?w (pv_add rfl rfl rfl (by first | assumption | exact wr64 (by omega))) rfl rfl ?_)); case w => first | exact wt_none rfl | exact wt_some' rfl rfl rfl rfl (by first | rfl | assumption | exact dT (by omega) | exact dF (by omega))) | refine awl_nil ?_)
                refine rnd_n _ _ _ ?_ ⟨n + 1, hnt, rfl, rfl, rfl⟩ (by first | ((repeat' (first | exact True.intro | refine ⟨rfl, ?_⟩)); all_goals fail) | fail) (by solve | repeat' constructor)
                omega
              · repeat (first | refine awp_seq ?_ | refine awp_region_lit rfl ?_ | refine awp_exit ?_ | refine then_n ?_ | refine awp_cond_f rfl (by first | rfl | assumption | exact dF (by omega)) ?_ | ((first | (show AWL _ _ _ (⟨_, .move _, _, _, _, _⟩ :: _) _ _ _; refine awl_pw ?w (pv_move rfl rfl) rfl rfl ?_) | (show AWL _ _ _ (⟨_, .binOp .lss _ _ _ _, _, _, _, _⟩ :: _) _ _ _; refine awl_pw ?w (pv_lss rfl rfl rfl) rfl rfl ?_) | (show AWL _ _ _ (⟨_, .call ⟨.builtin .len, _, _⟩, _, _, _, _⟩ :: _) _ _ _; refine awl_pw ?w (pv_len_v T0 rfl rfl rfl) rfl rfl ?_)); case w => first | exact wt_none rfl | exact wt_some' rfl rfl rfl rfl (by first | rfl | assumption | exact dT (by omega) | exact dF (by omega))) | refine awl_nil ?_)
                refine awl_hw (by first | exact wt_none rfl | exact wt_some' rfl rfl rfl rfl (by first | rfl | assumption | exact dT (by omega) | exact dF (by omega))) (st_call T0 (hA) rfl rfl rfl rfl (by first | exact callee_lit | exact callee_v | exact callee_fn) (by solve | repeat' constructor) rfl rfl ?_)
                rintro _ rfl
                repeat (first | refine awp_ret ?_ | ((first | (show AWL _ _ _ (⟨_, .assign _, _, _, _, _⟩ :: _) _ _ _; refine awl_pw ?w (pv_assign rfl rfl) rfl rfl ?_)); case w => first | exact wt_none rfl | exact wt_some' rfl rfl rfl rfl (by first | rfl | assumption | exact dT (by omega) | exact dF (by omega))) | refine awl_nil ?_)
                exact body_p (.cons rfl .nil) rfl
          have lX : (debtsL b i).length = b.days.length := by simp [debtsL]
          have lY : (callsL b i).length = b.days.length := by simp [callsL]
          have eX : ∀ n, n < b.days.length → (debtsL b i).getD n default = debtsN b i n := fun n hn => range_getD hn
          have eY : ∀ n, n < b.days.length → (callsL b i).getD n default = callsN b i n := fun n hn => range_getD hn
          have c1 := lC1 i hit
          have c2 := lD1 i hit
          have hL := hv.loan i hit
          repeat (first | refine awp_seq ?_ | refine awp_block ?_ | refine awp_region_lit rfl ?_ | refine awp_skip ?_ | refine then_n ?_ | refine awp_cond_t rfl (by first | rfl | assumption | exact dT (by omega)) ?_ | ((first | (show AWL _ _ _ (⟨_, .move _, _, _, _, _⟩ :: _) _ _ _; refine awl_pw ?w (pv_move rfl rfl) rfl rfl ?_) | (show AWL _ _ _ (⟨_, .load _ _, _, _, _, _⟩ :: _) _ _ _; refine awl_lw ?w (lv_cl1 T0 rfl rfl rfl (by solve | repeat' constructor) (by first | rfl | assumption)) rfl rfl rfl ?_) | (show AWL _ _ _ (⟨_, .load _ _, _, _, _, _⟩ :: _) _ _ _; refine awl_lw ?w (lv_cla T0 rfl rfl rfl (by solve | repeat' constructor) rfl) rfl rfl rfl ?_) | (show AWL _ _ _ (⟨_, .fieldAddr _ _ _, _, _, _, _⟩ :: _) _ _ _; refine awl_pw ?w (pv_fa T0 rfl rfl rfl (by simp; rfl)) rfl rfl ?_) | (show AWL _ _ _ (⟨_, .binOp .lss _ _ _ _, _, _, _, _⟩ :: _) _ _ _; refine awl_pw ?w (pv_lss rfl rfl rfl) rfl rfl ?_) | (show AWL _ _ _ (⟨_, .call ⟨.builtin .len, _, _⟩, _, _, _, _⟩ :: _) _ _ _; refine awl_pw ?w (pv_len_t T0 rfl rfl rfl) rfl rfl ?_)); case w => first | exact wt_none rfl | exact wt_some' rfl rfl rfl rfl (by first | rfl | assumption | exact dT (by omega) | exact dF (by omega))) | refine awl_nil ?_)
          refine awl_hw (by first | exact wt_none rfl | exact wt_some' rfl rfl rfl rfl (by first | rfl | assumption | exact dT (by omega) | exact dF (by omega))) (st_call T0 (bank_p true b hS) rfl rfl rfl rfl (by first | exact callee_lit | exact callee_v | exact callee_fn) (by solve | repeat' constructor) rfl rfl ?_)
          rintro _ rfl
          repeat (first | ((first | (show AWL _ _ _ (⟨_, .move _, _, _, _, _⟩ :: _) _ _ _; refine awl_pw ?w (pv_move rfl rfl) rfl rfl ?_)); case w => first | exact wt_none rfl | exact wt_some' rfl rfl rfl rfl (by first | rfl | assumption | exact dT (by omega) | exact dF (by omega))))
          refine awl_hw (by first | exact wt_none rfl | exact wt_some' rfl rfl rfl rfl (by first | rfl | assumption | exact dT (by omega) | exact dF (by omega))) (st_call T0 (bounds_p b i hS hf hit) rfl rfl rfl rfl (by first | exact callee_lit | exact callee_v | exact callee_fn) (by solve | repeat' constructor) rfl rfl ?_)
          rintro _ rfl
          generalize debtsL b i = X at *
          generalize callsL b i = Y at *
          repeat (first | refine awp_seq ?_ | ((first | (show AWL _ _ _ (⟨_, .move _, _, _, _, _⟩ :: _) _ _ _; refine awl_pw ?w (pv_move rfl rfl) rfl rfl ?_) | (show AWL _ _ _ (⟨_, .assign _, _, _, _, _⟩ :: _) _ _ _; refine awl_pw ?w (pv_assign rfl rfl) rfl rfl ?_) | (show AWL _ _ _ (⟨_, .extract _ _, _, _, _, _⟩ :: _) _ _ _; refine awl_pw ?w (pv_extract rfl rfl rfl) rfl rfl ?_)); case w => first | exact wt_none rfl | exact wt_some' rfl rfl rfl rfl (by first | rfl | assumption | exact dT (by omega) | exact dF (by omega))) | refine awl_nil ?_)
          refine awp_cut _ (awp_weak (by first | ((repeat' (first | exact True.intro | refine ⟨rfl, ?_⟩)); all_goals fail) | fail) (by solve | repeat' constructor) (th_13 (b := b) (t := t) (X := X) (Y := Y) (T := T) (D := D) (C := C) (ga := g76) (g5 := g5) (i := i) (by omega) (by omega) (dF (by omega)) (dF (by omega)) (dF (by omega)) (dF (by omega)) rfl)) ?_
          as_aux_lemma =>
            rintro s h ⟨rfl, rfl⟩
            repeat (first | refine awp_seq ?_ | refine awp_region_lit rfl ?_ | refine awp_skip ?_ | refine awp_cond_f rfl (by first | rfl | assumption | exact dF (by omega)) ?_ | ((first | (show AWL _ _ _ (⟨_, .move _, _, _, _, _⟩ :: _) _ _ _; refine awl_pw ?w (pv_move rfl rfl) rfl rfl ?_) | (show AWL _ _ _ (⟨_, .load _ _, _, _, _, _⟩ :: _) _ _ _; refine awl_lw ?w (lv_cl1 T0 rfl rfl rfl (by solve | repeat' constructor) (by first | rfl | assumption)) rfl rfl rfl ?_) | (show AWL _ _ _ (⟨_, .load _ _, _, _, _, _⟩ :: _) _ _ _; refine awl_lw ?w (lv_elt_ag T0 rfl rfl rfl rfl (by solve | repeat' constructor)) rfl rfl rfl ?_) | (show AWL _ _ _ (⟨_, .fieldAddr _ _ _, _, _, _, _⟩ :: _) _ _ _; refine awl_pw ?w (pv_fa T0 rfl rfl rfl (by simp; rfl)) rfl rfl ?_) | (show AWL _ _ _ (⟨_, .indexAddr _ _ _, _, _, _, _⟩ :: _) _ _ _; refine awl_pw ?w (pv_ix_t T0 rfl rfl rfl rfl (by omega) (by first | exact Int.toNat_natCast _ | rfl)) rfl rfl ?_)); case w => first | exact wt_none rfl | exact wt_some' rfl rfl rfl rfl (by first | rfl | assumption | exact dT (by omega) | exact dF (by omega))))
            refine awl_hw (by first | exact wt_none rfl | exact wt_some' rfl rfl rfl rfl (by first | rfl | assumption | exact dT (by omega) | exact dF (by omega))) (st_alloc T0 rfl rfl rfl rfl (by simp only [Value.cells, List.toList_toArray, List.map_cons, List.map_nil]; rfl) ?_)
            intro g16
            repeat (first | refine awp_seq ?_ | refine awp_block ?_ | refine awp_region_lit rfl ?_ | ((first | (show AWL _ _ _ (⟨_, .assign _, _, _, _, _⟩ :: _) _ _ _; refine awl_pw ?w (pv_assign rfl rfl) rfl rfl ?_)); case w => first | exact wt_none rfl | exact wt_some' rfl rfl rfl rfl (by first | rfl | assumption | exact dT (by omega) | exact dF (by omega))) | (show AWL _ _ _ (⟨_, .store _ _ _, _, _, _, _⟩ :: _) _ _ _; refine awl_hw (by first | exact wt_none rfl | exact wt_some' rfl rfl rfl rfl (by first | rfl | assumption | exact dT (by omega) | exact dF (by omega))) (st_store T0 rfl rfl rfl rfl rfl (by simp only [cellsA]; rfl) rfl rfl rfl (by solve | repeat' constructor) (by solve | repeat' constructor) trivial ?_)) | refine awl_nil ?_)
            have hfz : fRows (sumC b t i) b.days.length = fRows (fun k => if k < 0 then sumC b t (i + 1) k else sumC b t i k) b.days.length := by
              rw [show (fun k => if k < 0 then sumC b t (i + 1) k else sumC b t i k) = sumC b t i from funext fun k => if_neg (by omega)]
            rw [hfz]
            refine awp_loop (fun m s h => ∃ (n : Nat), n ≤ b.days.length ∧ m = b.days.length - n ∧ s = [(16, .v (.pointer (some ⟨g16, 0, none⟩))), (17, intA n)] ++ thS g2 g5 g76 i b.days.length X Y T D C ∧
              h = [thB g2 b, thT g5 t, thL g16 (b.loans.getD i default), .rw (.slice (some ⟨g76, 0, none⟩) b.days.length b.days.length) 3 1 (fRows (fun k => if k < n then sumC b t (i + 1) k else sumC b t i k) b.days.length)]) ?_ ⟨0, Nat.zero_le _, rfl, rfl, rfl⟩ (by first | ((repeat' (first | exact True.intro | refine ⟨rfl, ?_⟩)); all_goals fail) | fail) (by solve | repeat' constructor)
            as_aux_lemma =>
              rintro m s h ⟨n, hn, rfl, rfl, rfl⟩
              simp only [List.cons_append, List.nil_append]
              by_cases hnt : n < b.days.length
              case neg =>
                have hfe : fRows (fun k => if k < n then sumC b t (i + 1) k else sumC b t i k) b.days.length = fRows (sumC b t (i + 1)) b.days.length := by
                  unfold fRows
                  refine List.map_congr_left fun k hk => ?_
                  have hk' := List.mem_range.1 hk
                  dsimp only
                  rw [if_pos (by omega)]
                rw [hfe]
                repeat (first | refine awp_seq ?_ | refine awp_region_lit rfl ?_ | refine awp_exit ?_ | refine then_n ?_ | refine awp_cond_f rfl (by first | rfl | assumption | exact dF (by omega)) ?_ | ((first | (show AWL _ _ _ (⟨_, .move _, _, _, _, _⟩ :: _) _ _ _; refine awl_pw ?w (pv_move rfl rfl) rfl rfl ?_) | (show AWL _ _ _ (⟨_, .assign _, _, _, _, _⟩ :: _) _ _ _; refine awl_pw ?w (pv_assign rfl rfl) rfl rfl ?_) | (show AWL _ _ _ (⟨_, .load _ _, _, _, _, _⟩ :: _) _ _ _; refine awl_lw ?w (lv_cl1 T0 rfl rfl rfl (by solve | repeat' constructor) (by first | rfl | assumption)) rfl rfl rfl ?_) | (show AWL _ _ _ (⟨_, .fieldAddr _ _ _, _, _, _, _⟩ :: _) _ _ _; refine awl_pw ?w (pv_fa T0 rfl rfl rfl (by simp; rfl)) rfl rfl ?_) | (show AWL _ _ _ (⟨_, .binOp .add _ _ _ _, _, _, _, _⟩ :: _) _ _ _; refine awl_pw ?w (pv_add rfl rfl rfl (by first | assumption | exact wr64 (by omega))) rfl rfl ?_) | (show AWL _ _ _ (⟨_, .binOp .lss _ _ _ _, _, _, _, _⟩ :: _) _ _ _; refine awl_pw ?w (pv_lss rfl rfl rfl) rfl rfl ?_) | (show AWL _ _ _ (⟨_, .call ⟨.builtin .len, _, _⟩, _, _, _, _⟩ :: _) _ _ _; refine awl_pw ?w (pv_len_t T0 rfl rfl rfl) rfl rfl ?_)); case w => first | exact wt_none rfl | exact wt_some' rfl rfl rfl rfl (by first | rfl | assumption | exact dT (by omega) | exact dF (by omega))) | refine awl_nil ?_)
                refine rnd_n _ _ _ ?_ ⟨i + 1, hit, rfl, rfl, rfl⟩ (by first | ((repeat' (first | exact True.intro | refine ⟨rfl, ?_⟩)); all_goals fail) | fail) (by solve | repeat' constructor)
                omega
              have x1 := debt_in hv ht hit hnt
              have x2 := call_in hv ht hit hnt
              have x3 := st_bd hL.1 hTs n
              have x4 := x3.2.1 (by omega)
              have x5 : 0 ≤ (allSt b.loans t.prices t.rates i n).call := x3.2.2.2.2.1
              have x6 : 0 ≤ (allSt b.loans t.prices t.rates i n).after := x3.2.2.2.2.2.2
              have x7 : (allSt b.loans t.prices t.rates i n).after ≤ 200000 := by
                show (stN (b.loans.getD i default) t.prices t.rates n).before - (stN (b.loans.getD i default) t.prices t.rates n).call ≤ 200000
                have := x3.2.2.2.2.1; omega
              have x8 : (allSt b.loans t.prices t.rates i n).call ≤ 200000 := by
                have h1 := x3.2.2.2.2.2.1
                show (stN (b.loans.getD i default) t.prices t.rates n).call ≤ 200000
                omega
              have hmg := st_margin hL.1 t.prices t.rates n
              have hday := truthB_day ht hnt
              have hm1 := hL.1.2.2.1
              have hm2 := hL.1.2.2.2.1
              have hsh := hL.1.2.2.2.2
              have hdn := dot_nonneg (b.loans.getD i default).shares (t.prices.getD n []) (fun x hx => (hsh x hx).1) (fun x hx => (hTs.1 n x hx).1)
              have hdl := dot_le (b.loans.getD i default).shares (t.prices.getD n []) hsh (hTs.1 n)
              have hV := value_w false false (b.loans.getD i default).shares (t.prices.getD n []) (by omega) (by omega) (by omega) (fun x hx => by have := hsh x hx; omega) (fun x hx => by have := hTs.1 n x hx; omega)
              have y1 := eD i n hit hnt
              have y2 := eC i n hit hnt
              have y3 : (allSt b.loans t.prices t.rates i n).after * (100 + (b.loans.getD i default).margin) ≤ 100 * dot (b.loans.getD i default).shares (t.prices.getD n []) := hmg
              have y4 : 0 ≤ (allSt b.loans t.prices t.rates i n).after * (100 + (b.loans.getD i default).margin) := Int.mul_nonneg x6 (by omega)
              have z1 := hsB i n hi hnt
              have z2 := sumC_succ b t i n
              rw [← y1] at x1 x6 x7 y3 y4
              rw [← y2] at x2 x5 x8 z2
              clear hmg hday hTs x3 x4 y1 y2 eD eC lD1 lC1 hsB
              as_aux_lemma =>
                repeat (first | refine awp_seq ?_ | refine awp_block ?_ | refine awp_region_lit rfl ?_ | refine awp_skip ?_ | refine then_n ?_ | refine awp_cond_t rfl (by first | rfl | assumption | exact dT (by omega)) ?_ | ((first | (show AWL _ _ _ (⟨_, .move _, _, _, _, _⟩ :: _) _ _ _; refine awl_pw ?w (pv_move rfl rfl) rfl rfl ?_) | (show AWL _ _ _ (⟨_, .load _ _, _, _, _, _⟩ :: _) _ _ _; refine awl_lw ?w (lv_cl1 T0 rfl rfl rfl (by solve | repeat' constructor) (by first | rfl | assumption)) rfl rfl rfl ?_) | (show AWL _ _ _ (⟨_, .fieldAddr _ _ _, _, _, _, _⟩ :: _) _ _ _; refine awl_pw ?w (pv_fa T0 rfl rfl rfl (by simp; rfl)) rfl rfl ?_) | (show AWL _ _ _ (⟨_, .binOp .lss _ _ _ _, _, _, _, _⟩ :: _) _ _ _; refine awl_pw ?w (pv_lss rfl rfl rfl) rfl rfl ?_) | (show AWL _ _ _ (⟨_, .call ⟨.builtin .len, _, _⟩, _, _, _, _⟩ :: _) _ _ _; refine awl_pw ?w (pv_len_t T0 rfl rfl rfl) rfl rfl ?_)); case w => first | exact wt_none rfl | exact wt_some' rfl rfl rfl rfl (by first | rfl | assumption | exact dT (by omega) | exact dF (by omega))) | refine awl_nil ?_)
                refine awp_cut _ (awp_weak (by first | ((repeat' (first | exact True.intro | refine ⟨rfl, ?_⟩)); all_goals fail) | fail) (by solve | repeat' constructor) (th_19 (b := b) (t := t) (X := X) (Y := Y) (T := T) (D := D) (C := C) (ga := g76) (g5 := g5) (g16 := g16) (l := b.loans.getD i default) hS hf hit hnt (by omega) (by omega) (inB_iff.2 x2) rfl)) ?_
                rintro s h ⟨rfl, rfl⟩
                simp only [List.cons_append, List.nil_append]
                repeat (first | refine awp_seq ?_)
                refine awp_cut _ (awp_weak (by first | ((repeat' (first | exact True.intro | refine ⟨rfl, ?_⟩)); all_goals fail) | fail) (by solve | repeat' constructor) (th_20 (b := b) (t := t) (X := X) (Y := Y) (T := T) (D := D) (C := C) (ga := g76) (g5 := g5) (g16 := g16) (l := b.loans.getD i default) (by omega) (by omega) (by omega) (by omega) (by omega) (by omega) (by omega) (by rw [eX n hnt]; exact inB_iff.2 x1) (by rw [eY n hnt]; exact inB_iff.2 x2) (dF (by omega)) hV (by omega) (by omega) (by omega) (dF (by omega)) rfl)) ?_
                rintro s h ⟨rfl, rfl⟩
                simp only [List.cons_append, List.nil_append]
                repeat (first | refine awp_skip ?_ | refine then_n ?_ | refine awp_cond_f rfl (by first | rfl | assumption | exact dF (by omega)) ?_)
                refine awp_cutB _ (awp_weak (by first | ((repeat' (first | exact True.intro | refine ⟨rfl, ?_⟩)); all_goals fail) | fail) (by solve | repeat' constructor) (th_22 (b := b) (t := t) (X := X) (Y := Y) (T := T) (D := D) (C := C) (ga := g76) (g5 := g5) (g16 := g16) (l := b.loans.getD i default) (f := fun k => if k < n then sumC b t (i + 1) k else sumC b t i k) (f' := fun k => if k < n + 1 then sumC b t (i + 1) k else sumC b t i k) (by omega) (by omega) hnt (by rw [if_neg (by omega)]; omega) (by omega) (fun k hk => ?_) rfl)) ?_
                · by_cases e : k = n
                  · subst e
                    rw [if_pos rfl, if_pos (by omega), if_neg (by omega), z2]
                  · rw [if_neg e]
                    by_cases e2 : k < n
                    · rw [if_pos e2, if_pos (by omega)]
                    · rw [if_neg e2, if_neg (by omega)]
                rintro s h ⟨rfl, rfl⟩
                simp only [List.cons_append, List.nil_append]
                repeat (first | refine awp_region_lit rfl ?_ | ((first | (show AWL _ _ _ (⟨_, .move _, _, _, _, _⟩ :: _) _ _ _; refine awl_pw ?w (pv_move rfl rfl) rfl rfl ?_) | (show AWL _ _ _ (⟨_, .assign _, _, _, _, _⟩ :: _) _ _ _; refine awl_pw ?w (pv_assign rfl rfl) rfl rfl ?_) | (show AWL _ _ _ (⟨_, .binOp .add _ _ _ _, _, _, _, _⟩ :: _) _ _ _; refine awl_pw ?w (pv_add rfl rfl rfl (by first | assumption | exact wr64 (by omega))) rfl rfl ?_)); case w => first | exact wt_none rfl | exact wt_some' rfl rfl rfl rfl (by first | rfl | assumption | exact dT (by omega) | exact dF (by omega))) | refine awl_nil ?_)
                refine rnd_n _ _ _ ?_ ⟨n + 1, hnt, rfl, rfl, rfl⟩ (by first | ((repeat' (first | exact True.intro | refine ⟨rfl, ?_⟩)); all_goals fail) | fail) (by solve | repeat' constructor)
                omega
end Go.Proofs.Ytfiacjdkdjkiiaa
