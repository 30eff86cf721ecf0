/- The law MarginPrices: its walk. -/
import Derived.Test.YtfiacjdkdjkiiaaPr0
import Derived.Test.YtfiacjdkdjkiiaaGTx
import Derived.Test.YtfiacjdkdjkiiaaPk
import Derived.Test.YtfiacjdkdjkiiaaGRd
import Derived.Test.YtfiacjdkdjkiiaaGMa
import Derived.Test.YtfiacjdkdjkiiaaMc
namespace Go.Proofs.Ytfiacjdkdjkiiaa
open Go Go.RowKit Go.Tl
set_option linter.unusedVariables false
set_option linter.unusedSimpArgs false
set_option maxRecDepth 100000
set_option maxHeartbeats 20000000
attribute [local irreducible] AWP AWL AOp PV LV AWT AWE
abbrev truthX (t : TruthD) : AV := .ag [.t (.sl true 1 t.prices.length (fun k => [intsT true (t.prices.getD k [])])), .t (intsT true t.rates)]
theorem truthX_le (t : TruthD) : AVLe (truthX t) (truthA t) := .ag (.cons (.t (ofn_le fun k hk => ⟨rfl, one_le (ints_le _)⟩)) (.cons (.t (ints_le _)) .nil))
theorem truth_x {b : BankD} {t : TruthD} (hv : Valid b) (h : truthB b t = true) : PCall Try.prog 21 [truthA t] (fun r => r = truthA t) := by
  obtain ⟨l1, l2⟩ := truthB_len h
  have hd := hv.days
  have hs := hv.st
  exact truth_p t (by omega) (by omega) (fun k hk => by have := (truthB_day h (k := k) (by omega)).1; omega)
theorem prices_p (hA : PCall Try.prog 18 [] (fun r => r = boolA true)) (b : BankD) (ws ms : List Int) (on : Int) (hd1 : b.days.length ≤ 9223372036854775807) (hd2 : b.loans.length ≤ 9223372036854775807)
    (hw : Words ws) (hl : ws.length ≤ 9223372036854775807) (hw' : Words ms) (hl' : ms.length ≤ 9223372036854775807) (h0 : 0 ≤ on) (h255 : on ≤ 255) :
    PCall Try.prog 10 [bankA false b, .t (wordsT false ws), .t (wordsT false ms), .v (.int .u8 on)] (fun r => r = boolA true) := by
  refine acall_of_awp T0 Try.func10 rfl rfl rfl ?_
  repeat (first | refine awp_seq ?_ | refine awp_region_lit rfl ?_)
  refine awl_hw (by first | exact wt_none rfl | exact wt_some' rfl rfl rfl rfl (by first | rfl | assumption | exact dT (by omega) | exact dF (by omega))) (st_box rfl rfl rfl (by simp only [cellsA]; rfl) rfl rfl ?_)
  intro g4
  repeat (first | refine awp_seq ?_ | refine awp_region_lit rfl ?_ | ((first | (show AWL _ _ _ (⟨_, .assign _, _, _, _, _⟩ :: _) _ _ _; refine awl_pw ?w (pv_assign rfl rfl) rfl rfl ?_) | (show AWL _ _ _ (⟨_, .load _ _, _, _, _, _⟩ :: _) _ _ _; refine awl_lw ?w (lv_cla T0 rfl rfl rfl (by solve | repeat' constructor) rfl) rfl rfl rfl ?_)); case w => first | exact wt_none rfl | exact wt_some' rfl rfl rfl rfl (by first | rfl | assumption | exact dT (by omega) | exact dF (by omega))) | refine awl_nil ?_)
  cases hr : readyB b
  · refine awl_hw (by first | exact wt_none rfl | exact wt_some' rfl rfl rfl rfl (by first | rfl | assumption | exact dT (by omega) | exact dF (by omega))) (st_call T0 (ready_w hd1 hd2 hr) rfl rfl rfl rfl (by first | exact callee_lit | exact callee_v | exact callee_fn) (by solve | repeat' constructor) rfl rfl ?_)
    rintro _ rfl
    repeat (first | refine awp_seq ?_ | refine awp_region_lit rfl ?_ | refine then_n ?_ | refine awp_cond_t rfl (by first | rfl | assumption | exact dT (by omega)) ?_ | ((first | (show AWL _ _ _ (⟨_, .unOp .not _ _, _, _, _, _⟩ :: _) _ _ _; refine awl_pw ?w (pv_not rfl rfl) rfl rfl ?_)); case w => first | exact wt_none rfl | exact wt_some' rfl rfl rfl rfl (by first | rfl | assumption | exact dT (by omega) | exact dF (by omega))) | refine awl_nil ?_)
    refine awl_hw (by first | exact wt_none rfl | exact wt_some' rfl rfl rfl rfl (by first | rfl | assumption | exact dT (by omega) | exact dF (by omega))) (st_call T0 (hA) rfl rfl rfl rfl (by first | exact callee_lit | exact callee_v | exact callee_fn) (by solve | repeat' constructor) rfl rfl ?_)
    rintro _ rfl
    repeat (first | refine awp_ret ?_ | refine then_r ?_ | ((first | (show AWL _ _ _ (⟨_, .assign _, _, _, _, _⟩ :: _) _ _ _; refine awl_pw ?w (pv_assign rfl rfl) rfl rfl ?_)); case w => first | exact wt_none rfl | exact wt_some' rfl rfl rfl rfl (by first | rfl | assumption | exact dT (by omega) | exact dF (by omega))) | refine awl_nil ?_)
    exact body_p (.cons rfl .nil) rfl
  refine awl_hw (by first | exact wt_none rfl | exact wt_some' rfl rfl rfl rfl (by first | rfl | assumption | exact dT (by omega) | exact dF (by omega))) (st_call T0 (ready_w hd1 hd2 hr) rfl rfl rfl rfl (by first | exact callee_lit | exact callee_v | exact callee_fn) (by solve | repeat' constructor) rfl rfl ?_)
  rintro _ rfl
  as_aux_lemma =>
    obtain ⟨hv, hS, hf⟩ := ready_v hr
    have hd := hv.days
    have hlo4 := hv.loans
    have hst4 := hv.st
    have ht := picked_truth hv hw
    have ho := picked_truth hv hw'
    repeat (first | refine awp_seq ?_ | refine awp_region_lit rfl ?_ | refine awp_skip ?_ | refine then_n ?_ | refine awp_cond_f rfl (by first | rfl | assumption | exact dF (by omega)) ?_ | ((first | (show AWL _ _ _ (⟨_, .move _, _, _, _, _⟩ :: _) _ _ _; refine awl_pw ?w (pv_move rfl rfl) rfl rfl ?_) | (show AWL _ _ _ (⟨_, .load _ _, _, _, _, _⟩ :: _) _ _ _; refine awl_lw ?w (lv_cla T0 rfl rfl rfl (by solve | repeat' constructor) rfl) rfl rfl rfl ?_) | (show AWL _ _ _ (⟨_, .unOp .not _ _, _, _, _, _⟩ :: _) _ _ _; refine awl_pw ?w (pv_not rfl rfl) rfl rfl ?_)); case w => first | exact wt_none rfl | exact wt_some' rfl rfl rfl rfl (by first | rfl | assumption | exact dT (by omega) | exact dF (by omega))) | refine awl_nil ?_)
    refine awl_hw (by first | exact wt_none rfl | exact wt_some' rfl rfl rfl rfl (by first | rfl | assumption | exact dT (by omega) | exact dF (by omega))) (st_call T0 (picked_p false false b ws hv hw hl) rfl rfl rfl rfl (by first | exact callee_lit | exact callee_v | exact callee_fn) (by solve | repeat' constructor) rfl rfl ?_)
    rintro _ rfl
    generalize pickedD b ws = t at *
    skip
    refine awl_hw (by first | exact wt_none rfl | exact wt_some' rfl rfl rfl rfl (by first | rfl | assumption | exact dT (by omega) | exact dF (by omega))) (st_alloc T0 rfl rfl rfl rfl (by simp only [Value.cells, List.toList_toArray, List.map_cons, List.map_nil]; rfl) ?_)
    intro g9
    repeat (first | refine awp_seq ?_ | refine awp_region_lit rfl ?_ | ((first | (show AWL _ _ _ (⟨_, .move _, _, _, _, _⟩ :: _) _ _ _; refine awl_pw ?w (pv_move rfl rfl) rfl rfl ?_) | (show AWL _ _ _ (⟨_, .load _ _, _, _, _, _⟩ :: _) _ _ _; refine awl_lw ?w (lv_cla T0 rfl rfl rfl (by solve | repeat' constructor) rfl) rfl rfl rfl ?_)); case w => first | exact wt_none rfl | exact wt_some' rfl rfl rfl rfl (by first | rfl | assumption | exact dT (by omega) | exact dF (by omega))) | (show AWL _ _ _ (⟨_, .store _ _ _, _, _, _, _⟩ :: _) _ _ _; refine awl_hw (by first | exact wt_none rfl | exact wt_some' rfl rfl rfl rfl (by first | rfl | assumption | exact dT (by omega) | exact dF (by omega))) (st_store T0 rfl rfl rfl rfl rfl (by simp only [cellsA]; rfl) rfl rfl rfl (by solve | repeat' constructor) (by solve | repeat' constructor) trivial ?_)) | refine awl_nil ?_)
    refine awl_hw (by first | exact wt_none rfl | exact wt_some' rfl rfl rfl rfl (by first | rfl | assumption | exact dT (by omega) | exact dF (by omega))) (st_call T0 (picked_p false false b ms hv hw' hl') rfl rfl rfl rfl (by first | exact callee_lit | exact callee_v | exact callee_fn) (by solve | repeat' constructor) rfl rfl ?_)
    rintro _ rfl
    generalize pickedD b ms = o at *
    obtain ⟨n, hn⟩ := Int.eq_ofNat_of_zero_le (Int.tmod_nonneg (b.days.length : Int) h0)
    have hnlt : n < b.days.length := by
      have := Int.tmod_lt_of_pos on (show (0 : Int) < b.days.length by omega)
      omega
    skip
    refine awl_hw (by first | exact wt_none rfl | exact wt_some' rfl rfl rfl rfl (by first | rfl | assumption | exact dT (by omega) | exact dF (by omega))) (st_alloc T0 rfl rfl rfl rfl (by simp only [Value.cells, List.toList_toArray, List.map_cons, List.map_nil]; rfl) ?_)
    intro g10
    repeat (first | refine awp_seq ?_ | refine awp_region_lit rfl ?_ | ((first | (show AWL _ _ _ (⟨_, .move _, _, _, _, _⟩ :: _) _ _ _; refine awl_pw ?w (pv_move rfl rfl) rfl rfl ?_) | (show AWL _ _ _ (⟨_, .assign _, _, _, _, _⟩ :: _) _ _ _; refine awl_pw ?w (pv_assign rfl rfl) rfl rfl ?_) | (show AWL _ _ _ (⟨_, .load _ _, _, _, _, _⟩ :: _) _ _ _; refine awl_lw ?w (lv_cl1 T0 rfl rfl rfl (by solve | repeat' constructor) (by first | rfl | assumption)) rfl rfl rfl ?_) | (show AWL _ _ _ (⟨_, .fieldAddr _ _ _, _, _, _, _⟩ :: _) _ _ _; refine awl_pw ?w (pv_fa T0 rfl rfl rfl (by simp; rfl)) rfl rfl ?_) | (show AWL _ _ _ (⟨_, .build _ _, _, _, _, _⟩ :: _) _ _ _; refine awl_pw ?w (pv_build T0 rfl rfl rfl (by simp only [Value.cells, List.toList_toArray, List.map_cons, List.map_nil]; rfl) (by first | ((repeat' (first | exact BParts.nil | apply BParts.cons | rfl)); all_goals fail) | fail) (by first | ((repeat' (first | exact FillA.nil | exact Sp.done | apply FillA.cons | apply Sp.put | apply Sp.skip | (simp only [cellsA]; rfl) | rfl)); all_goals fail) | fail)) rfl rfl ?_) | (show AWL _ _ _ (⟨_, .binOp .rem _ _ _ _, _, _, _, _⟩ :: _) _ _ _; refine awl_pw ?w (pv_rem rfl rfl rfl (by omega) (by first | assumption | rfl)) rfl rfl ?_) | (show AWL _ _ _ (⟨_, .call ⟨.builtin .len, _, _⟩, _, _, _, _⟩ :: _) _ _ _; refine awl_pw ?w (pv_len_t T0 rfl rfl rfl) rfl rfl ?_) | (show AWL _ _ _ (⟨_, .convert 5 _ _, _, _, _, _⟩ :: _) _ _ _; refine awl_pw ?w (pv_convert rfl rfl Try.underlying5 Try.underlying3 (by first | assumption | exact wr64 (by omega))) rfl rfl ?_)); case w => first | exact wt_none rfl | exact wt_some' rfl rfl rfl rfl (by first | rfl | assumption | exact dT (by omega) | exact dF (by omega))) | (show AWL _ _ _ (⟨_, .store _ _ _, _, _, _, _⟩ :: _) _ _ _; refine awl_hw (by first | exact wt_none rfl | exact wt_some' rfl rfl rfl rfl (by first | rfl | assumption | exact dT (by omega) | exact dF (by omega))) (st_store T0 rfl rfl rfl rfl rfl (by simp only [cellsA]; rfl) rfl rfl rfl (by solve | repeat' constructor) (by solve | repeat' constructor) trivial ?_)) | refine awl_nil ?_)
    refine awl_hw (by first | exact wt_none rfl | exact wt_some' rfl rfl rfl rfl (by first | rfl | assumption | exact dT (by omega) | exact dF (by omega))) (st_alloc T0 rfl rfl rfl rfl (by simp only [Value.cells, List.toList_toArray, List.map_cons, List.map_nil]; rfl) ?_)
    intro g12
    skip
    refine awl_hw (by first | exact wt_none rfl | exact wt_some' rfl rfl rfl rfl (by first | rfl | assumption | exact dT (by omega) | exact dF (by omega))) (st_alloc T0 rfl rfl rfl rfl (by simp only [Value.cells, List.toList_toArray, List.map_cons, List.map_nil]; rfl) ?_)
    intro g13
    repeat (first | refine awp_seq ?_ | refine awp_block ?_ | refine awp_region_lit rfl ?_ | ((first | (show AWL _ _ _ (⟨_, .assign _, _, _, _, _⟩ :: _) _ _ _; refine awl_pw ?w (pv_assign rfl rfl) rfl rfl ?_)); case w => first | exact wt_none rfl | exact wt_some' rfl rfl rfl rfl (by first | rfl | assumption | exact dT (by omega) | exact dF (by omega))) | (show AWL _ _ _ (⟨_, .store _ _ _, _, _, _, _⟩ :: _) _ _ _; refine awl_hw (by first | exact wt_none rfl | exact wt_some' rfl rfl rfl rfl (by first | rfl | assumption | exact dT (by omega) | exact dF (by omega))) (st_store T0 rfl rfl rfl rfl rfl (by simp only [cellsA]; rfl) rfl rfl rfl (by solve | repeat' constructor) (by solve | repeat' constructor) trivial ?_)) | refine awl_nil ?_)
    obtain ⟨l1, l2⟩ := truthB_len ht
    obtain ⟨l3, l4⟩ := truthB_len ho
    refine awp_ghost (ghost_nilrow 27 1) ?_
    refine awp_ghost (ghost_nilrow 3 1) ?_
    refine awp_ghost (ghost_nilrow 27 1) ?_
    refine awp_ghost (ghost_nilrow 3 1) ?_
    refine awp_loop (fun m s h => ∃ (i : Nat) (a : Option Addr) (c : Nat) (a' : Option Addr) (c' : Nat) (a2 : Option Addr) (c2 : Nat) (a3 : Option Addr) (c3 : Nat) (r1 r2 r3 r4 : List (List AV)), i ≤ b.days.length ∧ m = b.days.length - i ∧
      r1 = (maxPs t o b.stocks.toNat i).map lstRow ∧ r2 = (maxRs t o i).map intRow ∧ r3 = (somePs t o n b.stocks.toNat i).map lstRow ∧ r4 = (cpRs t i).map intRow ∧
      s = [(4, .v (.pointer (some ⟨g4, 0, none⟩))), (9, .v (.pointer (some ⟨g9, 0, none⟩))), (10, .v (.pointer (some ⟨g10, 0, none⟩))), (11, intA n), (12, .v (.pointer (some ⟨g12, 0, none⟩))), (13, .v (.pointer (some ⟨g13, 0, none⟩))), (14, intA i)] ∧
      h = [.cl g4 25 [intA b.stocks, .t (daysT false b.days), .t (loansT false b.loans)], .cl g9 29 [.t (rowsT false t.prices), .t (intsT false t.rates)], .cl g10 29 [.t (rowsT false o.prices), .t (intsT false o.rates)],
        .cl g12 29 [.v (.slice a i c), .v (.slice a' i c')], .cl g13 29 [.v (.slice a2 i c2), .v (.slice a3 i c3)], .rw (.slice a i c) 27 1 r1, .rw (.slice a' i c') 3 1 r2, .rw (.slice a2 i c2) 27 1 r3, .rw (.slice a3 i c3) 3 1 r4]) ?_
      ⟨0, _, _, _, _, _, _, _, _, _, _, _, _, Nat.zero_le _, rfl, rfl, rfl, rfl, rfl, rfl, rfl⟩ (by first | ((repeat' (first | exact True.intro | refine ⟨rfl, ?_⟩)); all_goals fail) | fail) (by solve | repeat' constructor)
    as_aux_lemma =>
      rintro m s h ⟨i, a, c, a', c', a2, c2, a3, c3, r1, r2, r3, r4, hi, rfl, hr1, hr2, hr3, hr4, rfl, rfl⟩
      have hn1 : r1.length = i := by rw [hr1]; simp [maxPs]
      have hn2 : r2.length = i := by rw [hr2]; simp [maxRs]
      have hn3 : r3.length = i := by rw [hr3]; simp [somePs]
      have hn4 : r4.length = i := by rw [hr4]; simp [cpRs]
      by_cases hit : i < b.days.length
      · have hlt := (truthB_day ht hit).1
        have hlo := (truthB_day ho hit).1
        repeat (first | refine awp_seq ?_ | refine awp_block ?_ | refine awp_region_lit rfl ?_ | refine awp_skip ?_ | refine then_n ?_ | refine awp_cond_t rfl (by first | rfl | assumption | exact dT (by omega)) ?_ | ((first | (show AWL _ _ _ (⟨_, .move _, _, _, _, _⟩ :: _) _ _ _; refine awl_pw ?w (pv_move rfl rfl) rfl rfl ?_) | (show AWL _ _ _ (⟨_, .assign _, _, _, _, _⟩ :: _) _ _ _; refine awl_pw ?w (pv_assign rfl rfl) rfl rfl ?_) | (show AWL _ _ _ (⟨_, .load _ _, _, _, _, _⟩ :: _) _ _ _; refine awl_lw ?w (lv_cl1 T0 rfl rfl rfl (by solve | repeat' constructor) (by first | rfl | assumption)) rfl rfl rfl ?_) | (show AWL _ _ _ (⟨_, .fieldAddr _ _ _, _, _, _, _⟩ :: _) _ _ _; refine awl_pw ?w (pv_fa T0 rfl rfl rfl (by simp; rfl)) rfl rfl ?_) | (show AWL _ _ _ (⟨_, .binOp .lss _ _ _ _, _, _, _, _⟩ :: _) _ _ _; refine awl_pw ?w (pv_lss rfl rfl rfl) rfl rfl ?_) | (show AWL _ _ _ (⟨_, .call ⟨.builtin .len, _, _⟩, _, _, _, _⟩ :: _) _ _ _; refine awl_pw ?w (pv_len_t T0 rfl rfl rfl) rfl rfl ?_)); case w => first | exact wt_none rfl | exact wt_some' rfl rfl rfl rfl (by first | rfl | assumption | exact dT (by omega) | exact dF (by omega))) | refine awl_nil ?_)
        refine awp_ghost (ghost_nilrow 3 1) ?_
        refine awp_ghost (ghost_nilrow 3 1) ?_
        refine awp_loop (fun m s h => ∃ (j : Nat) (e : Option Addr) (f : Nat) (e' : Option Addr) (f' : Nat) (rp rq : List (List AV)), j ≤ b.stocks.toNat ∧ m = b.stocks.toNat - j ∧ rp = (maxRow t o i j).map intRow ∧ rq = (someRow t o n i j).map intRow ∧
          s = [(4, .v (.pointer (some ⟨g4, 0, none⟩))), (9, .v (.pointer (some ⟨g9, 0, none⟩))), (10, .v (.pointer (some ⟨g10, 0, none⟩))), (11, intA n), (12, .v (.pointer (some ⟨g12, 0, none⟩))), (13, .v (.pointer (some ⟨g13, 0, none⟩))), (14, intA i), (15, .v (.slice e j f)), (16, .v (.slice e' j f')), (17, intA j)] ∧
          h = [.cl g4 25 [intA b.stocks, .t (daysT false b.days), .t (loansT false b.loans)], .cl g9 29 [.t (rowsT false t.prices), .t (intsT false t.rates)], .cl g10 29 [.t (rowsT false o.prices), .t (intsT false o.rates)],
            .cl g12 29 [.v (.slice a i c), .v (.slice a' i c')], .cl g13 29 [.v (.slice a2 i c2), .v (.slice a3 i c3)], .rw (.slice a i c) 27 1 r1, .rw (.slice a' i c') 3 1 r2, .rw (.slice a2 i c2) 27 1 r3, .rw (.slice a3 i c3) 3 1 r4,
            .rw (.slice e j f) 3 1 rp, .rw (.slice e' j f') 3 1 rq]) ?_ ⟨0, _, _, _, _, _, _, Nat.zero_le _, rfl, rfl, rfl, rfl, rfl⟩ (by first | ((repeat' (first | exact True.intro | refine ⟨rfl, ?_⟩)); all_goals fail) | fail) (by solve | repeat' constructor)
        as_aux_lemma =>
          rintro m s h ⟨j, e, f, e', f', rp, rq, hj, rfl, hrp, hrq, rfl, rfl⟩
          have hp1 : rp.length = j := by rw [hrp]; simp [maxRow]
          have hq1 : rq.length = j := by rw [hrq]; simp [someRow]
          by_cases hjt : j < b.stocks.toNat
          · have hla : ((rp ++ [[intA (max ((t.prices.getD i []).getD j 0) ((o.prices.getD i []).getD j 0))]]).getD j [])[0]? = some (intA (max ((t.prices.getD i []).getD j 0) ((o.prices.getD i []).getD j 0))) := last_at hp1
            by_cases hin : (i : Int) = n
            · have hin' : i = n := by omega
              have hdi := decide_eq_true hin
              as_aux_lemma =>
                repeat (first | refine awp_seq ?_ | refine awp_block ?_ | refine awp_region_lit rfl ?_ | refine awp_skip ?_ | refine then_n ?_ | refine awp_cond_t rfl (by first | rfl | assumption | exact dT (by omega)) ?_ | ((first | (show AWL _ _ _ (⟨_, .move _, _, _, _, _⟩ :: _) _ _ _; refine awl_pw ?w (pv_move rfl rfl) rfl rfl ?_) | (show AWL _ _ _ (⟨_, .load _ _, _, _, _, _⟩ :: _) _ _ _; refine awl_lw ?w (lv_cl1 T0 rfl rfl rfl (by solve | repeat' constructor) (by first | rfl | assumption)) rfl rfl rfl ?_) | (show AWL _ _ _ (⟨_, .fieldAddr _ _ _, _, _, _, _⟩ :: _) _ _ _; refine awl_pw ?w (pv_fa T0 rfl rfl rfl (by simp; rfl)) rfl rfl ?_) | (show AWL _ _ _ (⟨_, .binOp .lss _ _ _ _, _, _, _, _⟩ :: _) _ _ _; refine awl_pw ?w (pv_lss rfl rfl rfl) rfl rfl ?_)); case w => first | exact wt_none rfl | exact wt_some' rfl rfl rfl rfl (by first | rfl | assumption | exact dT (by omega) | exact dF (by omega))) | refine awl_nil ?_)
                refine awp_cut _ (awp_weak (by first | ((repeat' (first | exact True.intro | refine ⟨rfl, ?_⟩)); all_goals fail) | fail) (by solve | repeat' constructor) (pr_14 (by omega) (by omega) (by omega) (by omega) (by omega) hp1 rfl)) ?_
                rintro s h ⟨ga, d, rfl, rfl⟩
                simp only [List.cons_append, List.nil_append]
                repeat (first | refine awp_seq ?_ | refine awp_region_lit rfl ?_ | refine then_n ?_ | refine awp_cond_t rfl (by first | rfl | assumption | exact dT (by omega)) ?_ | ((first | (show AWL _ _ _ (⟨_, .move _, _, _, _, _⟩ :: _) _ _ _; refine awl_pw ?w (pv_move rfl rfl) rfl rfl ?_) | (show AWL _ _ _ (⟨_, .load _ _, _, _, _, _⟩ :: _) _ _ _; refine awl_lw ?w (lv_rp T0 rfl rfl rfl (by solve | repeat' constructor) (by first | omega | (simp; omega)) (by omega) (by first | assumption | rfl)) rfl rfl rfl ?_) | (show AWL _ _ _ (⟨_, .indexAddr _ _ _, _, _, _, _⟩ :: _) _ _ _; refine awl_pw ?w (pv_ix_own T0 rfl rfl rfl rfl (by omega) (by first | exact Int.toNat_natCast _ | rfl)) rfl rfl ?_) | (show AWL _ _ _ (⟨_, .binOp .eql _ _ _ _, _, _, _, _⟩ :: _) _ _ _; refine awl_pw ?w (pv_eql rfl rfl rfl) rfl rfl ?_)); case w => first | exact wt_none rfl | exact wt_some' rfl rfl rfl rfl (by first | rfl | assumption | exact dT (by omega) | exact dF (by omega))) | refine awl_nil ?_)
                refine awl_hw (by first | exact wt_none rfl | exact wt_some' rfl rfl rfl rfl (by first | rfl | assumption | exact dT (by omega) | exact dF (by omega))) (st_bsl T0 rfl rfl rfl rfl rfl (by solve | repeat' constructor) rfl rfl rfl rfl (by simp only [List.map_cons, List.map_nil, cellsA]; rfl) ?_)
                intro g88
                skip
                refine awl_hw (by first | exact wt_none rfl | exact wt_some' rfl rfl rfl rfl (by first | rfl | assumption | exact dT (by omega) | exact dF (by omega))) (st_app T0 rfl rfl rfl rfl rfl rfl rfl rfl rfl (by solve | repeat' constructor) (by solve | repeat' constructor) rfl rfl hq1 (by omega) (fun _ _ => trivial) ?_)
                intro a89 c89 p89
                repeat (first | refine awp_region_lit rfl ?_ | ((first | (show AWL _ _ _ (⟨_, .move _, _, _, _, _⟩ :: _) _ _ _; refine awl_pw ?w (pv_move rfl rfl) rfl rfl ?_) | (show AWL _ _ _ (⟨_, .assign _, _, _, _, _⟩ :: _) _ _ _; refine awl_pw ?w (pv_assign rfl rfl) rfl rfl ?_) | (show AWL _ _ _ (⟨_, .binOp .add _ _ _ _, _, _, _, _⟩ :: _) _ _ _; refine awl_pw ?w (pv_add rfl rfl rfl (by first | assumption | exact wr64 (by omega))) rfl rfl ?_)); case w => first | exact wt_none rfl | exact wt_some' rfl rfl rfl rfl (by first | rfl | assumption | exact dT (by omega) | exact dF (by omega))) | refine awl_nil ?_)
                refine rnd_n _ _ _ ?_ ⟨j + 1, _, _, _, _, _, _, hjt, rfl, ?_, ?_, rfl, rfl⟩ (by first | ((repeat' (first | exact True.intro | refine ⟨rfl, ?_⟩)); all_goals fail) | fail) (by solve | repeat' constructor)
                · omega
                · rw [hrp, show maxRow t o i (j + 1) = maxRow t o i j ++ [_] from range_step _ j, List.map_append]; rfl
                · rw [hrq, show someRow t o n i (j + 1) = someRow t o n i j ++ [_] from range_step _ j, List.map_append, if_pos hin']; rfl
            · have hin' : ¬ i = n := by omega
              have hdi := decide_eq_false hin
              as_aux_lemma =>
                repeat (first | refine awp_seq ?_ | refine awp_block ?_ | refine awp_region_lit rfl ?_ | refine awp_skip ?_ | refine then_n ?_ | refine awp_cond_t rfl (by first | rfl | assumption | exact dT (by omega)) ?_ | ((first | (show AWL _ _ _ (⟨_, .move _, _, _, _, _⟩ :: _) _ _ _; refine awl_pw ?w (pv_move rfl rfl) rfl rfl ?_) | (show AWL _ _ _ (⟨_, .load _ _, _, _, _, _⟩ :: _) _ _ _; refine awl_lw ?w (lv_cl1 T0 rfl rfl rfl (by solve | repeat' constructor) (by first | rfl | assumption)) rfl rfl rfl ?_) | (show AWL _ _ _ (⟨_, .fieldAddr _ _ _, _, _, _, _⟩ :: _) _ _ _; refine awl_pw ?w (pv_fa T0 rfl rfl rfl (by simp; rfl)) rfl rfl ?_) | (show AWL _ _ _ (⟨_, .binOp .lss _ _ _ _, _, _, _, _⟩ :: _) _ _ _; refine awl_pw ?w (pv_lss rfl rfl rfl) rfl rfl ?_)); case w => first | exact wt_none rfl | exact wt_some' rfl rfl rfl rfl (by first | rfl | assumption | exact dT (by omega) | exact dF (by omega))) | refine awl_nil ?_)
                refine awp_cut _ (awp_weak (by first | ((repeat' (first | exact True.intro | refine ⟨rfl, ?_⟩)); all_goals fail) | fail) (by solve | repeat' constructor) (pr_14 (by omega) (by omega) (by omega) (by omega) (by omega) hp1 rfl)) ?_
                rintro s h ⟨ga, d, rfl, rfl⟩
                simp only [List.cons_append, List.nil_append]
                repeat (first | refine awp_seq ?_ | refine awp_region_lit rfl ?_ | refine then_n ?_ | refine awp_cond_f rfl (by first | rfl | assumption | exact dF (by omega)) ?_ | ((first | (show AWL _ _ _ (⟨_, .move _, _, _, _, _⟩ :: _) _ _ _; refine awl_pw ?w (pv_move rfl rfl) rfl rfl ?_) | (show AWL _ _ _ (⟨_, .load _ _, _, _, _, _⟩ :: _) _ _ _; refine awl_lw ?w (lv_cl1 T0 rfl rfl rfl (by solve | repeat' constructor) (by first | rfl | assumption)) rfl rfl rfl ?_) | (show AWL _ _ _ (⟨_, .load _ _, _, _, _, _⟩ :: _) _ _ _; refine awl_lw ?w (lv_elt_sc T0 rfl rfl rfl rfl) rfl rfl rfl ?_) | (show AWL _ _ _ (⟨_, .load _ _, _, _, _, _⟩ :: _) _ _ _; refine awl_lw ?w (lv_elt_sl T0 rfl rfl rfl rfl) rfl rfl rfl ?_) | (show AWL _ _ _ (⟨_, .fieldAddr _ _ _, _, _, _, _⟩ :: _) _ _ _; refine awl_pw ?w (pv_fa T0 rfl rfl rfl (by simp; rfl)) rfl rfl ?_) | (show AWL _ _ _ (⟨_, .indexAddr _ _ _, _, _, _, _⟩ :: _) _ _ _; refine awl_pw ?w (pv_ix_t T0 rfl rfl rfl rfl (by omega) (by first | exact Int.toNat_natCast _ | rfl)) rfl rfl ?_) | (show AWL _ _ _ (⟨_, .binOp .eql _ _ _ _, _, _, _, _⟩ :: _) _ _ _; refine awl_pw ?w (pv_eql rfl rfl rfl) rfl rfl ?_)); case w => first | exact wt_none rfl | exact wt_some' rfl rfl rfl rfl (by first | rfl | assumption | exact dT (by omega) | exact dF (by omega))) | refine awl_nil ?_)
                refine awl_hw (by first | exact wt_none rfl | exact wt_some' rfl rfl rfl rfl (by first | rfl | assumption | exact dT (by omega) | exact dF (by omega))) (st_bsl T0 rfl rfl rfl rfl rfl (by solve | repeat' constructor) rfl rfl rfl rfl (by simp only [List.map_cons, List.map_nil, cellsA]; rfl) ?_)
                intro g99
                skip
                refine awl_hw (by first | exact wt_none rfl | exact wt_some' rfl rfl rfl rfl (by first | rfl | assumption | exact dT (by omega) | exact dF (by omega))) (st_app T0 rfl rfl rfl rfl rfl rfl rfl rfl rfl (by solve | repeat' constructor) (by solve | repeat' constructor) rfl rfl hq1 (by omega) (fun _ _ => trivial) ?_)
                intro a100 c100 p100
                repeat (first | refine awp_region_lit rfl ?_ | ((first | (show AWL _ _ _ (⟨_, .move _, _, _, _, _⟩ :: _) _ _ _; refine awl_pw ?w (pv_move rfl rfl) rfl rfl ?_) | (show AWL _ _ _ (⟨_, .assign _, _, _, _, _⟩ :: _) _ _ _; refine awl_pw ?w (pv_assign rfl rfl) rfl rfl ?_) | (show AWL _ _ _ (⟨_, .binOp .add _ _ _ _, _, _, _, _⟩ :: _) _ _ _; refine awl_pw ?w (pv_add rfl rfl rfl (by first | assumption | exact wr64 (by omega))) rfl rfl ?_)); case w => first | exact wt_none rfl | exact wt_some' rfl rfl rfl rfl (by first | rfl | assumption | exact dT (by omega) | exact dF (by omega))) | refine awl_nil ?_)
                refine rnd_n _ _ _ ?_ ⟨j + 1, _, _, _, _, _, _, hjt, rfl, ?_, ?_, rfl, rfl⟩ (by first | ((repeat' (first | exact True.intro | refine ⟨rfl, ?_⟩)); all_goals fail) | fail) (by solve | repeat' constructor)
                · omega
                · rw [hrp, show maxRow t o i (j + 1) = maxRow t o i j ++ [_] from range_step _ j, List.map_append]; rfl
                · rw [hrq, show someRow t o n i (j + 1) = someRow t o n i j ++ [_] from range_step _ j, List.map_append, if_neg hin']; rfl
          as_aux_lemma =>
            have ej : j = b.stocks.toNat := by omega
            refine awp_ghost (ghost_freeze (E := 3) (sz := 1) (n := (maxRow t o i b.stocks.toNat).length) (rows := rp) (d := 15) (fun q => [.sc (.int .i64 ((maxRow t o i b.stocks.toNat).getD q 0))]) (by solve | repeat' constructor) rfl (by rw [hrp, ej]; simp) ?_) ?_
            · rw [hrp, ej]
              exact intRows_tree _
            refine awp_ghost (ghost_freeze (E := 3) (sz := 1) (n := (someRow t o n i b.stocks.toNat).length) (rows := rq) (d := 16) (fun q => [.sc (.int .i64 ((someRow t o n i b.stocks.toNat).getD q 0))]) (by solve | repeat' constructor) rfl (by rw [hrq, ej]; simp) ?_) ?_
            · rw [hrq, ej]
              exact intRows_tree _
            repeat (first | refine awp_seq ?_ | refine awp_region_lit rfl ?_ | refine awp_exit ?_ | refine then_n ?_ | refine awp_cond_f rfl (by first | rfl | assumption | exact dF (by omega)) ?_ | ((first | (show AWL _ _ _ (⟨_, .move _, _, _, _, _⟩ :: _) _ _ _; refine awl_pw ?w (pv_move rfl rfl) rfl rfl ?_) | (show AWL _ _ _ (⟨_, .load _ _, _, _, _, _⟩ :: _) _ _ _; refine awl_lw ?w (lv_cl1 T0 rfl rfl rfl (by solve | repeat' constructor) (by first | rfl | assumption)) rfl rfl rfl ?_) | (show AWL _ _ _ (⟨_, .fieldAddr _ _ _, _, _, _, _⟩ :: _) _ _ _; refine awl_pw ?w (pv_fa T0 rfl rfl rfl (by simp; rfl)) rfl rfl ?_) | (show AWL _ _ _ (⟨_, .binOp .lss _ _ _ _, _, _, _, _⟩ :: _) _ _ _; refine awl_pw ?w (pv_lss rfl rfl rfl) rfl rfl ?_)); case w => first | exact wt_none rfl | exact wt_some' rfl rfl rfl rfl (by first | rfl | assumption | exact dT (by omega) | exact dF (by omega))) | refine awl_nil ?_)
            refine awp_cut _ (awp_weak (by first | ((repeat' (first | exact True.intro | refine ⟨rfl, ?_⟩)); all_goals fail) | fail) (by solve | repeat' constructor) (pr_18 (by omega) hn1 hn3 rfl)) ?_
            rintro s h ⟨b1, d1, b2, d2, rfl, rfl⟩
            skip
            refine awp_cutB _ (awp_weak (by first | ((repeat' (first | exact True.intro | refine ⟨rfl, ?_⟩)); all_goals fail) | fail) (by solve | repeat' constructor) (pr_19 (by omega) (by omega) (by omega) hn2 hn4 rfl)) ?_
            rintro s h ⟨b3, d3, b4, d4, rfl, rfl⟩
            repeat (first | refine awp_region_lit rfl ?_ | ((first | (show AWL _ _ _ (⟨_, .move _, _, _, _, _⟩ :: _) _ _ _; refine awl_pw ?w (pv_move rfl rfl) rfl rfl ?_) | (show AWL _ _ _ (⟨_, .assign _, _, _, _, _⟩ :: _) _ _ _; refine awl_pw ?w (pv_assign rfl rfl) rfl rfl ?_) | (show AWL _ _ _ (⟨_, .binOp .add _ _ _ _, _, _, _, _⟩ :: _) _ _ _; refine awl_pw ?w (pv_add rfl rfl rfl (by first | assumption | exact wr64 (by omega))) rfl rfl ?_)); case w => first | exact wt_none rfl | exact wt_some' rfl rfl rfl rfl (by first | rfl | assumption | exact dT (by omega) | exact dF (by omega))) | refine awl_nil ?_)
            refine rnd_n _ _ _ ?_ ⟨i + 1, _, _, _, _, _, _, _, _, _, _, _, _, hit, rfl, ?_, ?_, ?_, ?_, rfl, rfl⟩ (by first | ((repeat' (first | exact True.intro | refine ⟨rfl, ?_⟩)); all_goals fail) | fail) (by solve | repeat' constructor)
            · omega
            · rw [hr1, show maxPs t o b.stocks.toNat (i + 1) = maxPs t o b.stocks.toNat i ++ [_] from range_step _ i, List.map_append]; rfl
            · rw [hr2, show maxRs t o (i + 1) = maxRs t o i ++ [_] from range_step _ i, List.map_append]; rfl
            · rw [hr3, show somePs t o n b.stocks.toNat (i + 1) = somePs t o n b.stocks.toNat i ++ [_] from range_step _ i, List.map_append]; rfl
            · rw [hr4, show cpRs t (i + 1) = cpRs t i ++ [_] from range_step _ i, List.map_append]; rfl
      as_aux_lemma =>
        have ei : i = b.days.length := by omega
        have hu := max_truth hv ht ho
        have hv2 := some_truth (n := n) hv ht ho
        refine awp_ghost (ghost_freeze_cell (g := g12) (j := 0) (v := .slice a i c) (E := 27) (sz := 1) (rows := r1) (n := (maxD b t o).prices.length) (fun q => [intsT true ((maxD b t o).prices.getD q [])]) (by solve | repeat' constructor) (by solve | repeat' constructor) rfl rfl (by rw [hn1, ei]; simp [maxD, maxPs]) ?_) ?_
        · rw [hr1, ei]
          exact lstRows_tree (maxPs t o b.stocks.toNat b.days.length)
        refine awp_ghost (ghost_freeze_cell (g := g12) (j := 1) (v := .slice a' i c') (E := 3) (sz := 1) (rows := r2) (n := (maxD b t o).rates.length) (fun q => [.sc (.int .i64 ((maxD b t o).rates.getD q 0))]) (by solve | repeat' constructor) (by solve | repeat' constructor) rfl rfl (by rw [hn2, ei]; simp [maxD, maxRs]) ?_) ?_
        · rw [hr2, ei]
          exact intRows_tree (maxRs t o b.days.length)
        refine awp_ghost (ghost_freeze_cell (g := g13) (j := 0) (v := .slice a2 i c2) (E := 27) (sz := 1) (rows := r3) (n := (someD b t o n).prices.length) (fun q => [intsT true ((someD b t o n).prices.getD q [])]) (by solve | repeat' constructor) (by solve | repeat' constructor) rfl rfl (by rw [hn3, ei]; simp [someD, somePs]) ?_) ?_
        · rw [hr3, ei]
          exact lstRows_tree (somePs t o n b.stocks.toNat b.days.length)
        refine awp_ghost (ghost_freeze_cell (g := g13) (j := 1) (v := .slice a3 i c3) (E := 3) (sz := 1) (rows := r4) (n := (someD b t o n).rates.length) (fun q => [.sc (.int .i64 ((someD b t o n).rates.getD q 0))]) (by solve | repeat' constructor) (by solve | repeat' constructor) rfl rfl (by rw [hn4, ei]; simp [someD, cpRs]) ?_) ?_
        · rw [hr4, ei]
          exact intRows_tree (cpRs t b.days.length)
        clear hr1 hr2 hr3 hr4 hn1 hn2 hn3 hn4
        have hmx : ∀ q k, q < b.loans.length → k < b.days.length → ((debtsP b t b.loans.length).getD q []).getD k 0 ≤ ((debtsP b (maxD b t o) b.loans.length).getD q []).getD k 0 := fun q k hq hk => by
          rw [debts_at hq hk, debts_at hq hk]; exact max_debt hv ht ho hq hk
        have hsm : ∀ q, q < b.loans.length → ((callsP b (someD b t o n) b.loans.length).getD q []).getD n 0 ≤ ((callsP b t b.loans.length).getD q []).getD n 0 := fun q hq => by
          rw [calls_at hq hnlt, calls_at hq hnlt]; exact some_call hv ht ho hq hnlt
        generalize maxD b t o = u at *
        generalize someD b t o n = v at *
        repeat (first | refine awp_seq ?_ | refine awp_region_lit rfl ?_ | refine awp_exit ?_ | refine then_n ?_ | refine awp_cond_f rfl (by first | rfl | assumption | exact dF (by omega)) ?_ | ((first | (show AWL _ _ _ (⟨_, .move _, _, _, _, _⟩ :: _) _ _ _; refine awl_pw ?w (pv_move rfl rfl) rfl rfl ?_) | (show AWL _ _ _ (⟨_, .load _ _, _, _, _, _⟩ :: _) _ _ _; refine awl_lw ?w (lv_cl1 T0 rfl rfl rfl (by solve | repeat' constructor) (by first | rfl | assumption)) rfl rfl rfl ?_) | (show AWL _ _ _ (⟨_, .fieldAddr _ _ _, _, _, _, _⟩ :: _) _ _ _; refine awl_pw ?w (pv_fa T0 rfl rfl rfl (by simp; rfl)) rfl rfl ?_) | (show AWL _ _ _ (⟨_, .binOp .lss _ _ _ _, _, _, _, _⟩ :: _) _ _ _; refine awl_pw ?w (pv_lss rfl rfl rfl) rfl rfl ?_) | (show AWL _ _ _ (⟨_, .call ⟨.builtin .len, _, _⟩, _, _, _, _⟩ :: _) _ _ _; refine awl_pw ?w (pv_len_t T0 rfl rfl rfl) rfl rfl ?_)); case w => first | exact wt_none rfl | exact wt_some' rfl rfl rfl rfl (by first | rfl | assumption | exact dT (by omega) | exact dF (by omega))) | refine awl_nil ?_)
        refine awp_cut (fun s h => s = [(4, .v (.pointer (some ⟨g4, 0, none⟩))), (12, .v (.pointer (some ⟨g12, 0, none⟩))), (13, .v (.pointer (some ⟨g13, 0, none⟩))), (11, intA n), (18, .t (rowsT false (debtsP b t b.loans.length))), (19, .t (rowsT false (callsP b t b.loans.length))), (20, intA 0)] ∧
          h = [.cl g4 25 [intA b.stocks, .t (daysT false b.days), .t (loansT false b.loans)], .cl g12 29 [.t (.sl true 1 u.prices.length (fun k => [intsT true (u.prices.getD k [])])), .t (intsT true u.rates)], .cl g13 29 [.t (.sl true 1 v.prices.length (fun k => [intsT true (v.prices.getD k [])])), .t (intsT true v.rates)]]) ?_ ?_
        · as_aux_lemma =>
            refine awp_tree T0 [(0, 1), (2, 1), (1, 2), (3, 3), (4, 3), (5, 0), (6, 0), (7, 0), (8, 0), (9, 0), (10, 0), (11, 0)] (.op 0 1 (.op 2 1 (.op 1 2 (.op 3 3 (.op 4 3 (.op 5 0 (.op 6 0 (.op 7 0 (.op 8 0 (.op 9 0 (.op 10 0 (.op 11 0 .stop)))))))))))) _ rfl (by kernel_rfl) (SubH.refl _) ?_
            refine awt_lo rfl (wt_none rfl) (lv_cla T0 rfl rfl rfl (by solve | repeat' constructor) rfl) rfl rfl rfl ?_
            refine awt_lo rfl (wt_none rfl) (lv_cla T0 rfl rfl rfl (by solve | repeat' constructor) rfl) rfl rfl rfl ?_
            refine awt_h (hm := []) rfl (wt_none rfl) (by solve | repeat' constructor) rfl (st_call T0 (bank_p true b hS) rfl rfl rfl rfl (by first | exact callee_lit | exact callee_v | exact callee_fn) (by solve | repeat' constructor) rfl rfl ?_)
            rintro _ rfl
            refine awt_s (md := fun _ => True) rfl (wt_none rfl) (st_call T0 (truth_x hv ht) rfl rfl rfl rfl (by first | exact callee_lit | exact callee_v | exact callee_fn) (by solve | repeat' constructor) rfl rfl ?_)
            rintro _ rfl
            refine awe_s (md := fun _ => True) rfl (wt_none rfl) (st_call T0 (play_w hS hf ht) rfl rfl rfl rfl (by first | exact callee_lit | exact callee_v | exact callee_fn) (by solve | repeat' constructor) rfl rfl ?_)
            rintro _ rfl
            refine awe_p rfl (wt_none rfl) (pv_move rfl rfl) rfl rfl ?_
            refine awe_p rfl (wt_none rfl) (pv_extract rfl rfl rfl) rfl rfl ?_
            refine awe_p rfl (wt_none rfl) (pv_extract rfl rfl rfl) rfl rfl ?_
            refine awe_p rfl (wt_none rfl) (pv_extract rfl rfl rfl) rfl rfl ?_
            refine awe_p rfl (wt_none rfl) (pv_assign rfl rfl) rfl rfl ?_
            refine awe_p rfl (wt_none rfl) (pv_assign rfl rfl) rfl rfl ?_
            refine awe_p rfl (wt_none rfl) (pv_assign rfl rfl) rfl rfl ?_
            refine awe_end ?_
            exact cut_n ⟨rfl, rfl⟩ (by first | ((repeat' (first | exact True.intro | refine ⟨rfl, ?_⟩)); all_goals fail) | fail) (by solve | repeat' constructor)
        as_aux_lemma =>
          rintro s h ⟨rfl, rfl⟩
          repeat (first | refine awp_seq ?_)
          refine awp_cut (fun s h => s = [(4, .v (.pointer (some ⟨g4, 0, none⟩))), (13, .v (.pointer (some ⟨g13, 0, none⟩))), (11, intA n), (18, .t (rowsT false (debtsP b t b.loans.length))), (19, .t (rowsT false (callsP b t b.loans.length))), (20, intA 0), (21, .t (rowsT false (debtsP b u b.loans.length))), (23, intA 0)] ∧
            h = [.cl g4 25 [intA b.stocks, .t (daysT false b.days), .t (loansT false b.loans)], .cl g13 29 [.t (.sl true 1 v.prices.length (fun k => [intsT true (v.prices.getD k [])])), .t (intsT true v.rates)]]) ?_ ?_
          · as_aux_lemma =>
              refine awp_tree T0 [(0, 1), (2, 1), (1, 2), (3, 3), (4, 3), (5, 0), (6, 0), (7, 0), (8, 0), (9, 0), (10, 0), (11, 0)] (.op 0 1 (.op 2 1 (.op 1 2 (.op 3 3 (.op 4 3 (.op 5 0 (.op 6 0 (.op 7 0 (.op 8 0 (.op 9 0 (.op 10 0 (.op 11 0 .stop)))))))))))) _ rfl (by kernel_rfl) (SubH.refl _) ?_
              refine awt_lo rfl (wt_none rfl) (lv_cla T0 rfl rfl rfl (by solve | repeat' constructor) rfl) rfl rfl rfl ?_
              refine awt_lo rfl (wt_none rfl) (lv_cla T0 rfl rfl rfl (by solve | repeat' constructor) rfl) rfl rfl rfl ?_
              refine awt_h (hm := []) rfl (wt_none rfl) (by solve | repeat' constructor) rfl (st_call T0 (bank_p true b hS) rfl rfl rfl rfl (by first | exact callee_lit | exact callee_v | exact callee_fn) (by solve | repeat' constructor) rfl rfl ?_)
              rintro _ rfl
              refine awt_s (md := fun _ => True) rfl (wt_none rfl) (st_call T0 (pcall_weak (truth_x hv hu) (.cons (truthX_le _) .nil)) rfl rfl rfl rfl (by first | exact callee_lit | exact callee_v | exact callee_fn) (by solve | repeat' constructor) rfl rfl ?_)
              rintro _ rfl
              refine awe_s (md := fun _ => True) rfl (wt_none rfl) (st_call T0 (play_w hS hf hu) rfl rfl rfl rfl (by first | exact callee_lit | exact callee_v | exact callee_fn) (by solve | repeat' constructor) rfl rfl ?_)
              rintro _ rfl
              refine awe_p rfl (wt_none rfl) (pv_move rfl rfl) rfl rfl ?_
              refine awe_p rfl (wt_none rfl) (pv_extract rfl rfl rfl) rfl rfl ?_
              refine awe_p rfl (wt_none rfl) (pv_extract rfl rfl rfl) rfl rfl ?_
              refine awe_p rfl (wt_none rfl) (pv_extract rfl rfl rfl) rfl rfl ?_
              refine awe_p rfl (wt_none rfl) (pv_assign rfl rfl) rfl rfl ?_
              refine awe_p rfl (wt_none rfl) (pv_assign rfl rfl) rfl rfl ?_
              refine awe_p rfl (wt_none rfl) (pv_assign rfl rfl) rfl rfl ?_
              refine awe_end ?_
              exact cut_n ⟨rfl, rfl⟩ (by first | ((repeat' (first | exact True.intro | refine ⟨rfl, ?_⟩)); all_goals fail) | fail) (by solve | repeat' constructor)
          as_aux_lemma =>
            rintro s h ⟨rfl, rfl⟩
            repeat (first | refine awp_seq ?_)
            refine awp_cut (fun s h => s = [(4, .v (.pointer (some ⟨g4, 0, none⟩))), (11, intA n), (18, .t (rowsT false (debtsP b t b.loans.length))), (19, .t (rowsT false (callsP b t b.loans.length))), (20, intA 0), (21, .t (rowsT false (debtsP b u b.loans.length))), (23, intA 0), (25, .t (rowsT false (callsP b v b.loans.length))), (26, intA 0)] ∧
              h = [.cl g4 25 [intA b.stocks, .t (daysT false b.days), .t (loansT false b.loans)]]) ?_ ?_
            · as_aux_lemma =>
                refine awp_tree T0 [(0, 1), (2, 1), (1, 2), (3, 3), (4, 3), (5, 0), (6, 0), (7, 0), (8, 0), (9, 0), (10, 0), (11, 0)] (.op 0 1 (.op 2 1 (.op 1 2 (.op 3 3 (.op 4 3 (.op 5 0 (.op 6 0 (.op 7 0 (.op 8 0 (.op 9 0 (.op 10 0 (.op 11 0 .stop)))))))))))) _ rfl (by kernel_rfl) (SubH.refl _) ?_
                refine awt_lo rfl (wt_none rfl) (lv_cla T0 rfl rfl rfl (by solve | repeat' constructor) rfl) rfl rfl rfl ?_
                refine awt_lo rfl (wt_none rfl) (lv_cla T0 rfl rfl rfl (by solve | repeat' constructor) rfl) rfl rfl rfl ?_
                refine awt_h (hm := []) rfl (wt_none rfl) (by solve | repeat' constructor) rfl (st_call T0 (bank_p true b hS) rfl rfl rfl rfl (by first | exact callee_lit | exact callee_v | exact callee_fn) (by solve | repeat' constructor) rfl rfl ?_)
                rintro _ rfl
                refine awt_s (md := fun _ => True) rfl (wt_none rfl) (st_call T0 (pcall_weak (truth_x hv hv2) (.cons (truthX_le _) .nil)) rfl rfl rfl rfl (by first | exact callee_lit | exact callee_v | exact callee_fn) (by solve | repeat' constructor) rfl rfl ?_)
                rintro _ rfl
                refine awe_s (md := fun _ => True) rfl (wt_none rfl) (st_call T0 (play_w hS hf hv2) rfl rfl rfl rfl (by first | exact callee_lit | exact callee_v | exact callee_fn) (by solve | repeat' constructor) rfl rfl ?_)
                rintro _ rfl
                refine awe_p rfl (wt_none rfl) (pv_move rfl rfl) rfl rfl ?_
                refine awe_p rfl (wt_none rfl) (pv_extract rfl rfl rfl) rfl rfl ?_
                refine awe_p rfl (wt_none rfl) (pv_extract rfl rfl rfl) rfl rfl ?_
                refine awe_p rfl (wt_none rfl) (pv_extract rfl rfl rfl) rfl rfl ?_
                refine awe_p rfl (wt_none rfl) (pv_assign rfl rfl) rfl rfl ?_
                refine awe_p rfl (wt_none rfl) (pv_assign rfl rfl) rfl rfl ?_
                refine awe_p rfl (wt_none rfl) (pv_assign rfl rfl) rfl rfl ?_
                refine awe_end ?_
                exact cut_n ⟨rfl, rfl⟩ (by first | ((repeat' (first | exact True.intro | refine ⟨rfl, ?_⟩)); all_goals fail) | fail) (by solve | repeat' constructor)
            as_aux_lemma =>
              rintro s h ⟨rfl, rfl⟩
              have hlD : (debtsP b t b.loans.length).length = b.loans.length := by simp [debtsP]
              have hlC : (callsP b t b.loans.length).length = b.loans.length := by simp [callsP]
              have hlX : (debtsP b u b.loans.length).length = b.loans.length := by simp [debtsP]
              have hlZ : (callsP b v b.loans.length).length = b.loans.length := by simp [callsP]
              have hD1 : ∀ q, q < b.loans.length → ((debtsP b t b.loans.length).getD q []).length = b.days.length := fun q hq => debts_len hq
              have hC1 : ∀ q, q < b.loans.length → ((callsP b t b.loans.length).getD q []).length = b.days.length := fun q hq => calls_len hq
              have hX1 : ∀ q, q < b.loans.length → ((debtsP b u b.loans.length).getD q []).length = b.days.length := fun q hq => debts_len hq
              have hZ1 : ∀ q, q < b.loans.length → ((callsP b v b.loans.length).getD q []).length = b.days.length := fun q hq => calls_len hq
              generalize debtsP b t b.loans.length = D at *
              generalize callsP b t b.loans.length = C at *
              generalize debtsP b u b.loans.length = X at *
              generalize callsP b v b.loans.length = Z at *
              repeat (first | refine awp_seq ?_ | refine awp_block ?_ | refine awp_region_lit rfl ?_ | refine awp_skip ?_ | refine then_n ?_ | refine awp_cond_f rfl (by first | rfl | assumption | exact dF (by omega)) ?_ | ((first | (show AWL _ _ _ (⟨_, .move _, _, _, _, _⟩ :: _) _ _ _; refine awl_pw ?w (pv_move rfl rfl) rfl rfl ?_) | (show AWL _ _ _ (⟨_, .assign _, _, _, _, _⟩ :: _) _ _ _; refine awl_pw ?w (pv_assign rfl rfl) rfl rfl ?_) | (show AWL _ _ _ (⟨_, .load _ _, _, _, _, _⟩ :: _) _ _ _; refine awl_lw ?w (lv_cl1 T0 rfl rfl rfl (by solve | repeat' constructor) (by first | rfl | assumption)) rfl rfl rfl ?_) | (show AWL _ _ _ (⟨_, .fieldAddr _ _ _, _, _, _, _⟩ :: _) _ _ _; refine awl_pw ?w (pv_fa T0 rfl rfl rfl (by simp; rfl)) rfl rfl ?_) | (show AWL _ _ _ (⟨_, .binOp .neq _ _ _ _, _, _, _, _⟩ :: _) _ _ _; refine awl_pw ?w (pv_neq rfl rfl rfl) rfl rfl ?_) | (show AWL _ _ _ (⟨_, .call ⟨.builtin .len, _, _⟩, _, _, _, _⟩ :: _) _ _ _; refine awl_pw ?w (pv_len_t T0 rfl rfl rfl) rfl rfl ?_) | (show AWL _ _ _ (⟨_, .pick _ _ _, _, _, _, _⟩ :: _) _ _ _; refine awl_pw ?w (pv_pick_f rfl rfl (by first | rfl | assumption | exact dT (by omega) | exact dF (by omega)) rfl) rfl rfl ?_)); case w => first | exact wt_none rfl | exact wt_some' rfl rfl rfl rfl (by first | rfl | assumption | exact dT (by omega) | exact dF (by omega))) | refine awl_nil ?_)
              refine awp_loop (fun m s h => ∃ (q : Nat), q ≤ b.loans.length ∧ m = b.loans.length - q ∧
                s = [(4, .v (.pointer (some ⟨g4, 0, none⟩))), (11, intA n), (18, .t (rowsT false D)), (19, .t (rowsT false C)), (21, .t (rowsT false X)), (25, .t (rowsT false Z)), (27, intA q)] ∧
                h = [.cl g4 25 [intA b.stocks, .t (daysT false b.days), .t (loansT false b.loans)]]) ?_ ⟨0, Nat.zero_le _, rfl, rfl, rfl⟩ (by first | ((repeat' (first | exact True.intro | refine ⟨rfl, ?_⟩)); all_goals fail) | fail) (by solve | repeat' constructor)
              as_aux_lemma =>
                rintro m s h ⟨q, hq, rfl, rfl, rfl⟩
                by_cases hqt : q < b.loans.length
                case neg =>
                  repeat (first | refine awp_seq ?_ | refine awp_region_lit rfl ?_ | refine awp_exit ?_ | refine then_n ?_ | refine awp_cond_f rfl (by first | rfl | assumption | exact dF (by omega)) ?_ | ((first | (show AWL _ _ _ (⟨_, .move _, _, _, _, _⟩ :: _) _ _ _; refine awl_pw ?w (pv_move rfl rfl) rfl rfl ?_) | (show AWL _ _ _ (⟨_, .binOp .lss _ _ _ _, _, _, _, _⟩ :: _) _ _ _; refine awl_pw ?w (pv_lss rfl rfl rfl) rfl rfl ?_) | (show AWL _ _ _ (⟨_, .call ⟨.builtin .len, _, _⟩, _, _, _, _⟩ :: _) _ _ _; refine awl_pw ?w (pv_len_t T0 rfl rfl rfl) rfl rfl ?_)); case w => first | exact wt_none rfl | exact wt_some' rfl rfl rfl rfl (by first | rfl | assumption | exact dT (by omega) | exact dF (by omega))) | refine awl_nil ?_)
                  refine awl_hw (by first | exact wt_none rfl | exact wt_some' rfl rfl rfl rfl (by first | rfl | assumption | exact dT (by omega) | exact dF (by omega))) (st_call T0 (hA) rfl rfl rfl rfl (by first | exact callee_lit | exact callee_v | exact callee_fn) (by solve | repeat' constructor) rfl rfl ?_)
                  rintro _ rfl
                  repeat (first | refine awp_ret ?_ | ((first | (show AWL _ _ _ (⟨_, .assign _, _, _, _, _⟩ :: _) _ _ _; refine awl_pw ?w (pv_assign rfl rfl) rfl rfl ?_)); case w => first | exact wt_none rfl | exact wt_some' rfl rfl rfl rfl (by first | rfl | assumption | exact dT (by omega) | exact dF (by omega))) | refine awl_nil ?_)
                  exact body_p (.cons rfl .nil) rfl
                have e1 := hD1 q hqt
                have e2 := hC1 q hqt
                have e3 := hX1 q hqt
                have e4 := hZ1 q hqt
                have e5 := hsm q hqt
                repeat (first | refine awp_seq ?_ | refine awp_block ?_ | refine awp_region_lit rfl ?_ | refine awp_skip ?_ | refine then_n ?_ | refine awp_cond_t rfl (by first | rfl | assumption | exact dT (by omega)) ?_ | ((first | (show AWL _ _ _ (⟨_, .move _, _, _, _, _⟩ :: _) _ _ _; refine awl_pw ?w (pv_move rfl rfl) rfl rfl ?_) | (show AWL _ _ _ (⟨_, .binOp .lss _ _ _ _, _, _, _, _⟩ :: _) _ _ _; refine awl_pw ?w (pv_lss rfl rfl rfl) rfl rfl ?_) | (show AWL _ _ _ (⟨_, .call ⟨.builtin .len, _, _⟩, _, _, _, _⟩ :: _) _ _ _; refine awl_pw ?w (pv_len_t T0 rfl rfl rfl) rfl rfl ?_)); case w => first | exact wt_none rfl | exact wt_some' rfl rfl rfl rfl (by first | rfl | assumption | exact dT (by omega) | exact dF (by omega))) | refine awl_nil ?_)
                refine awp_cut _ (awp_weak (by first | ((repeat' (first | exact True.intro | refine ⟨rfl, ?_⟩)); all_goals fail) | fail) (by solve | repeat' constructor) (pr_28 (b := b) (by omega) (by omega) (by omega) (by omega) (by omega) (by omega) (dF (by omega)) (dF (by omega)) (dF (by omega)) (dF (by omega)) (dF (by omega)) rfl)) ?_
                rintro s h ⟨rfl, rfl⟩
                repeat (first | refine awp_seq ?_ | refine awp_block ?_ | refine awp_region_lit rfl ?_ | refine awp_skip ?_ | refine awp_cond_f rfl (by first | rfl | assumption | exact dF (by omega)) ?_ | ((first | (show AWL _ _ _ (⟨_, .assign _, _, _, _, _⟩ :: _) _ _ _; refine awl_pw ?w (pv_assign rfl rfl) rfl rfl ?_)); case w => first | exact wt_none rfl | exact wt_some' rfl rfl rfl rfl (by first | rfl | assumption | exact dT (by omega) | exact dF (by omega))) | refine awl_nil ?_)
                refine awp_loop (fun m s h => ∃ (k : Nat), k ≤ b.days.length ∧ m = b.days.length - k ∧
                  s = [(4, .v (.pointer (some ⟨g4, 0, none⟩))), (11, intA n), (18, .t (rowsT false D)), (19, .t (rowsT false C)), (21, .t (rowsT false X)), (25, .t (rowsT false Z)), (27, intA q), (28, intA k)] ∧
                  h = [.cl g4 25 [intA b.stocks, .t (daysT false b.days), .t (loansT false b.loans)]]) ?_ ⟨0, Nat.zero_le _, rfl, rfl, rfl⟩ (by first | ((repeat' (first | exact True.intro | refine ⟨rfl, ?_⟩)); all_goals fail) | fail) (by solve | repeat' constructor)
                as_aux_lemma =>
                  rintro m s h ⟨k, hk, rfl, rfl, rfl⟩
                  by_cases hkt : k < b.days.length
                  case neg =>
                    repeat (first | refine awp_seq ?_ | refine awp_region_lit rfl ?_ | refine awp_exit ?_ | refine then_n ?_ | refine awp_cond_f rfl (by first | rfl | assumption | exact dF (by omega)) ?_ | ((first | (show AWL _ _ _ (⟨_, .move _, _, _, _, _⟩ :: _) _ _ _; refine awl_pw ?w (pv_move rfl rfl) rfl rfl ?_) | (show AWL _ _ _ (⟨_, .assign _, _, _, _, _⟩ :: _) _ _ _; refine awl_pw ?w (pv_assign rfl rfl) rfl rfl ?_) | (show AWL _ _ _ (⟨_, .load _ _, _, _, _, _⟩ :: _) _ _ _; refine awl_lw ?w (lv_cl1 T0 rfl rfl rfl (by solve | repeat' constructor) (by first | rfl | assumption)) rfl rfl rfl ?_) | (show AWL _ _ _ (⟨_, .fieldAddr _ _ _, _, _, _, _⟩ :: _) _ _ _; refine awl_pw ?w (pv_fa T0 rfl rfl rfl (by simp; rfl)) rfl rfl ?_) | (show AWL _ _ _ (⟨_, .binOp .add _ _ _ _, _, _, _, _⟩ :: _) _ _ _; refine awl_pw ?w (pv_add rfl rfl rfl (by first | assumption | exact wr64 (by omega))) rfl rfl ?_) | (show AWL _ _ _ (⟨_, .binOp .lss _ _ _ _, _, _, _, _⟩ :: _) _ _ _; refine awl_pw ?w (pv_lss rfl rfl rfl) rfl rfl ?_) | (show AWL _ _ _ (⟨_, .call ⟨.builtin .len, _, _⟩, _, _, _, _⟩ :: _) _ _ _; refine awl_pw ?w (pv_len_t T0 rfl rfl rfl) rfl rfl ?_)); case w => first | exact wt_none rfl | exact wt_some' rfl rfl rfl rfl (by first | rfl | assumption | exact dT (by omega) | exact dF (by omega))) | refine awl_nil ?_)
                    refine rnd_n _ _ _ ?_ ⟨q + 1, hqt, rfl, rfl, rfl⟩ (by first | ((repeat' (first | exact True.intro | refine ⟨rfl, ?_⟩)); all_goals fail) | fail) (by solve | repeat' constructor)
                    omega
                  have e6 := hmx q k hqt hkt
                  repeat (first | refine awp_seq ?_ | refine awp_block ?_ | refine awp_region_lit rfl ?_ | refine awp_skip ?_ | refine then_n ?_ | refine awp_cond_t rfl (by first | rfl | assumption | exact dT (by omega)) ?_ | ((first | (show AWL _ _ _ (⟨_, .move _, _, _, _, _⟩ :: _) _ _ _; refine awl_pw ?w (pv_move rfl rfl) rfl rfl ?_) | (show AWL _ _ _ (⟨_, .load _ _, _, _, _, _⟩ :: _) _ _ _; refine awl_lw ?w (lv_cl1 T0 rfl rfl rfl (by solve | repeat' constructor) (by first | rfl | assumption)) rfl rfl rfl ?_) | (show AWL _ _ _ (⟨_, .fieldAddr _ _ _, _, _, _, _⟩ :: _) _ _ _; refine awl_pw ?w (pv_fa T0 rfl rfl rfl (by simp; rfl)) rfl rfl ?_) | (show AWL _ _ _ (⟨_, .binOp .lss _ _ _ _, _, _, _, _⟩ :: _) _ _ _; refine awl_pw ?w (pv_lss rfl rfl rfl) rfl rfl ?_) | (show AWL _ _ _ (⟨_, .call ⟨.builtin .len, _, _⟩, _, _, _, _⟩ :: _) _ _ _; refine awl_pw ?w (pv_len_t T0 rfl rfl rfl) rfl rfl ?_)); case w => first | exact wt_none rfl | exact wt_some' rfl rfl rfl rfl (by first | rfl | assumption | exact dT (by omega) | exact dF (by omega))) | refine awl_nil ?_)
                  refine awp_cut _ (awp_weak (by first | ((repeat' (first | exact True.intro | refine ⟨rfl, ?_⟩)); all_goals fail) | fail) (by solve | repeat' constructor) (pr_33 (b := b) (by omega) (by omega) (by omega) (by omega) (dF (by omega)) rfl)) ?_
                  rintro s h ⟨rfl, rfl⟩
                  repeat (first | refine awp_region_lit rfl ?_ | refine awp_skip ?_ | refine awp_cond_f rfl (by first | rfl | assumption | exact dF (by omega)) ?_ | ((first | (show AWL _ _ _ (⟨_, .move _, _, _, _, _⟩ :: _) _ _ _; refine awl_pw ?w (pv_move rfl rfl) rfl rfl ?_) | (show AWL _ _ _ (⟨_, .assign _, _, _, _, _⟩ :: _) _ _ _; refine awl_pw ?w (pv_assign rfl rfl) rfl rfl ?_) | (show AWL _ _ _ (⟨_, .binOp .add _ _ _ _, _, _, _, _⟩ :: _) _ _ _; refine awl_pw ?w (pv_add rfl rfl rfl (by first | assumption | exact wr64 (by omega))) rfl rfl ?_)); case w => first | exact wt_none rfl | exact wt_some' rfl rfl rfl rfl (by first | rfl | assumption | exact dT (by omega) | exact dF (by omega))) | refine awl_nil ?_)
                  refine rnd_n _ _ _ ?_ ⟨k + 1, hkt, rfl, rfl, rfl⟩ (by first | ((repeat' (first | exact True.intro | refine ⟨rfl, ?_⟩)); all_goals fail) | fail) (by solve | repeat' constructor)
                  omega
end Go.Proofs.Ytfiacjdkdjkiiaa
