/- The reference's run of a loan. -/
import Derived.Test.YtfiacjdkdjkiiaaZsMr0
namespace Go.Proofs.Ytfiacjdkdjkiiaa
open Go Go.RowKit Go.Tl
set_option linter.unusedVariables false
set_option linter.unusedSimpArgs false
set_option maxHeartbeats 2000000
attribute [local irreducible] AWP AWL AOp PV LV AWT AWE
theorem wr64m {x y : Int} (h : x = y) (h' : -9223372036854775808 ≤ y ∧ y ≤ 9223372036854775807) : IntKind.i64.wrap x = y := by subst h; exact wr64 h'
/-- the debts before the calls -/
def befR (b : BankD) (t : TruthD) (i n : Nat) : List Int := (List.range n).map fun d => (allSt b.loans t.prices t.rates i d).before
theorem run_p (b : BankD) (t : TruthD) (i : Nat) (hv : Valid b) (hb : truthB b t = true) (hi : i < b.loans.length) : PCall Try.prog 25 [bankA false b, truthA t, intA i]
    (fun r => r = .tup [.t (intsT true (befR b t i b.days.length)), .t (intsT true (callsR b t i b.days.length)), .t (intsT true (debtsR b t i b.days.length))]) := by
  obtain ⟨l1, l2⟩ := truthB_len hb
  have hT := truth_small hv hb
  have hd4 := hv.days
  have hl4 := hv.loans
  have hL := hv.loan i hi
  have hst4 := hv.st
  have hrw := truth_rows hv hb hi
  generalize hlo : b.loans.getD i default = lo at *
  refine acall_of_awp T0 Try.func25 rfl rfl rfl ?_
  repeat (first | refine awp_seq ?_ | refine awp_region_lit rfl ?_)
  refine awl_hw (wt_none rfl) (st_box rfl rfl rfl (by simp only [cellsA]; rfl) rfl rfl ?_)
  intro g3
  skip
  refine awl_hw (wt_none rfl) (st_box rfl rfl rfl (by simp only [cellsA]; rfl) rfl rfl ?_)
  intro g4
  repeat (first | refine awp_seq ?_ | refine awp_region_lit rfl ?_ | (show AWL _ _ _ (⟨_, .move _, _, _, _, _⟩ :: _) _ _ _; refine awl_pw (wt_none rfl) (pv_move rfl rfl) rfl rfl ?_) | (show AWL _ _ _ (⟨_, .assign _, _, _, _, _⟩ :: _) _ _ _; refine awl_pw (wt_none rfl) (pv_assign rfl rfl) rfl rfl ?_) | (show AWL _ _ _ (⟨_, .load _ _, _, _, _, _⟩ :: _) _ _ _; refine awl_lw (wt_none rfl) (lv_cl1 T0 rfl rfl rfl (by solve | repeat' constructor) (by first | rfl | assumption)) rfl rfl rfl ?_) | (show AWL _ _ _ (⟨_, .load _ _, _, _, _, _⟩ :: _) _ _ _; refine awl_lw (wt_none rfl) (lv_elt_ag T0 rfl rfl rfl rfl (by solve | repeat' constructor)) rfl rfl rfl ?_) | (show AWL _ _ _ (⟨_, .fieldAddr _ _ _, _, _, _, _⟩ :: _) _ _ _; refine awl_pw (wt_none rfl) (pv_fa T0 rfl rfl rfl (by simp; rfl)) rfl rfl ?_) | (show AWL _ _ _ (⟨_, .indexAddr _ _ _, _, _, _, _⟩ :: _) _ _ _; refine awl_pw (wt_none rfl) (pv_ix_t T0 rfl rfl rfl rfl (by omega) (by first | exact Int.toNat_natCast _ | rfl)) rfl rfl ?_) | refine awl_nil ?_)
  refine awl_hw (wt_none rfl) (st_alloc T0 rfl rfl rfl rfl (by simp only [Value.cells, List.toList_toArray, List.map_cons, List.map_nil]; rfl) ?_)
  intro g12
  repeat (first | refine awp_seq ?_ | refine awp_block ?_ | refine awp_region_lit rfl ?_ | (show AWL _ _ _ (⟨_, .assign _, _, _, _, _⟩ :: _) _ _ _; refine awl_pw (wt_none rfl) (pv_assign rfl rfl) rfl rfl ?_) | (show AWL _ _ _ (⟨_, .load _ _, _, _, _, _⟩ :: _) _ _ _; refine awl_lw (wt_none rfl) (lv_cl1 T0 rfl rfl rfl (by solve | repeat' constructor) (by first | rfl | assumption)) rfl rfl rfl ?_) | (show AWL _ _ _ (⟨_, .fieldAddr _ _ _, _, _, _, _⟩ :: _) _ _ _; refine awl_pw (wt_none rfl) (pv_fa T0 rfl rfl rfl (by simp; rfl)) rfl rfl ?_) | (show AWL _ _ _ (⟨_, .store _ _ _, _, _, _, _⟩ :: _) _ _ _; refine awl_hw (wt_none rfl) (st_store T0 rfl rfl rfl rfl rfl (by simp only [cellsA]; rfl) rfl rfl rfl (by solve | repeat' constructor) (by solve | repeat' constructor) trivial ?_)) | refine awl_nil ?_)
  rw [hlo]
  refine awp_ghost (ghost_nilrow 3 1) ?_
  refine awp_ghost (ghost_nilrow 3 1) ?_
  refine awp_ghost (ghost_nilrow 3 1) ?_
  refine awp_loop (fun m s h => ∃ (j : Nat) (dd : Int) (a : Option Addr) (c : Nat) (a' : Option Addr) (c' : Nat) (a2 : Option Addr) (c2 : Nat) (r1 r2 r3 : List (List AV)), j ≤ b.days.length ∧ m = b.days.length - j ∧
    allSt b.loans t.prices t.rates i j = stepN lo dd (t.rates.getD j 0) (t.prices.getD j []) ∧ 0 ≤ dd ∧ dd ≤ 150000 ∧
    r1 = (befR b t i j).map intRow ∧ r2 = (callsR b t i j).map intRow ∧ r3 = (debtsR b t i j).map intRow ∧
    s = [(3, .v (.pointer (some ⟨g3, 0, none⟩))), (4, .v (.pointer (some ⟨g4, 0, none⟩))), (12, .v (.pointer (some ⟨g12, 0, none⟩))), (9, .v (.slice a j c)), (10, .v (.slice a' j c')), (11, .v (.slice a2 j c2)), (13, intA dd), (14, intA j)] ∧
    h = [.cl g3 25 [intA b.stocks, .t (daysT false b.days), .t (loansT false b.loans)], .cl g4 29 [.t (rowsT false t.prices), .t (intsT false t.rates)], .cl g12 80 [intA lo.money, intA lo.margin, .t (intsT false lo.shares)],
      .rw (.slice a j c) 3 1 r1, .rw (.slice a' j c') 3 1 r2, .rw (.slice a2 j c2) 3 1 r3]) ?_ ⟨0, _, _, _, _, _, _, _, _, _, _, Nat.zero_le _, rfl, by rw [← hlo]; rfl, hL.1.1, by have := hL.1.2.1; omega, rfl, rfl, rfl, rfl, rfl⟩ (by first | ((repeat' (first | exact True.intro | refine ⟨rfl, ?_⟩)); all_goals fail) | fail) (by solve | repeat' constructor)
  rintro m s h ⟨j, dd, a, c, a', c', a2, c2, r1, r2, r3, hj, rfl, hst, hd0, hd1, hr1, hr2, hr3, rfl, rfl⟩
  by_cases hjt : j < b.days.length
  case neg =>
    have ej : j = b.days.length := by omega
    repeat (first | refine awp_seq ?_ | refine awp_region_lit rfl ?_ | refine awp_exit ?_ | refine awp_ret ?_ | refine then_n ?_ | refine awp_cond_f rfl (by first | rfl | assumption | exact dF (by omega)) ?_ | (show AWL _ _ _ (⟨_, .move _, _, _, _, _⟩ :: _) _ _ _; refine awl_pw (wt_none rfl) (pv_move rfl rfl) rfl rfl ?_) | (show AWL _ _ _ (⟨_, .assign _, _, _, _, _⟩ :: _) _ _ _; refine awl_pw (wt_none rfl) (pv_assign rfl rfl) rfl rfl ?_) | (show AWL _ _ _ (⟨_, .load _ _, _, _, _, _⟩ :: _) _ _ _; refine awl_lw (wt_none rfl) (lv_cl1 T0 rfl rfl rfl (by solve | repeat' constructor) (by first | rfl | assumption)) rfl rfl rfl ?_) | (show AWL _ _ _ (⟨_, .fieldAddr _ _ _, _, _, _, _⟩ :: _) _ _ _; refine awl_pw (wt_none rfl) (pv_fa T0 rfl rfl rfl (by simp; rfl)) rfl rfl ?_) | (show AWL _ _ _ (⟨_, .binOp .lss _ _ _ _, _, _, _, _⟩ :: _) _ _ _; refine awl_pw (wt_none rfl) (pv_lss rfl rfl rfl) rfl rfl ?_) | (show AWL _ _ _ (⟨_, .call ⟨.builtin .len, _, _⟩, _, _, _, _⟩ :: _) _ _ _; refine awl_pw (wt_none rfl) (pv_len_t T0 rfl rfl rfl) rfl rfl ?_) | refine awl_nil ?_)
    refine bodyQ_ghost (ghost_freeze (E := 3) (sz := 1) (n := (befR b t i b.days.length).length) (rows := r1) (d := 6) (fun q => [.sc (.int .i64 ((befR b t i b.days.length).getD q 0))]) (by solve | repeat' constructor) rfl (by rw [hr1, ej]; simp) ?_) ?_
    · rw [hr1, ej]
      exact intRows_tree _
    refine bodyQ_ghost (ghost_freeze (E := 3) (sz := 1) (n := (callsR b t i b.days.length).length) (rows := r2) (d := 7) (fun q => [.sc (.int .i64 ((callsR b t i b.days.length).getD q 0))]) (by solve | repeat' constructor) rfl (by rw [hr2, ej]; simp) ?_) ?_
    · rw [hr2, ej]
      exact intRows_tree _
    refine bodyQ_ghost (ghost_freeze (E := 3) (sz := 1) (n := (debtsR b t i b.days.length).length) (rows := r3) (d := 8) (fun q => [.sc (.int .i64 ((debtsR b t i b.days.length).getD q 0))]) (by solve | repeat' constructor) rfl (by rw [hr3, ej]; simp) ?_) ?_
    · rw [hr3, ej]
      exact intRows_tree _
    exact body_p (.cons rfl (.cons rfl (.cons rfl .nil))) rfl
  have hn1 : r1.length = j := by rw [hr1]; simp [befR]
  have hn2 : r2.length = j := by rw [hr2]; simp [callsR]
  have hn3 : r3.length = j := by rw [hr3]; simp [debtsR]
  have hrt := hT.2 j
  have hpr := hT.1 j
  have hm0 := Int.mul_nonneg hd0 hrt.1
  have hm1 : dd * t.rates.getD j 0 ≤ 150000 * 100 := Int.mul_le_mul hd1 hrt.2 hrt.1 (by decide)
  have hq : IntKind.i64.wrap ((dd * t.rates.getD j 0).tdiv 10000) = dd * t.rates.getD j 0 / 10000 := wr64m (Int.tdiv_eq_ediv_of_nonneg hm0) (by omega)
  have hbf : dd + dd * t.rates.getD j 0 / 10000 = befN dd (t.rates.getD j 0) := rfl
  have hwb : IntKind.i64.wrap (dd + dd * t.rates.getD j 0 / 10000) = befN dd (t.rates.getD j 0) := wr64m rfl (by omega)
  have hdot0 := dot_nonneg lo.shares (t.prices.getD j []) (fun x hx => (hL.1.2.2.2.2 x hx).1) (fun x hx => (hpr x hx).1)
  have hdot1 := dot_le lo.shares (t.prices.getD j []) hL.1.2.2.2.2 hpr
  have hmar := hL.1.2.2.1
  have hmar2 := hL.1.2.2.2.1
  have hlim0 := limN_nonneg (v := dot lo.shares (t.prices.getD j [])) hmar hdot0
  have hlim1 : limN (dot lo.shares (t.prices.getD j [])) lo.margin ≤ 100 * dot lo.shares (t.prices.getD j []) := Int.ediv_le_self _ (by omega)
  have hq2 : IntKind.i64.wrap ((100 * dot lo.shares (t.prices.getD j [])).tdiv (100 + lo.margin)) = limN (dot lo.shares (t.prices.getD j [])) lo.margin := wr64m (Int.tdiv_eq_ediv_of_nonneg (by omega)) (by omega)
  have hln : lo.shares.length = (t.prices.getD j []).length := by rcases hrw j with h | h; exact h; omega
  have hls := hL.2
  repeat (first | refine awp_seq ?_ | refine awp_block ?_ | refine awp_region_lit rfl ?_ | refine awp_skip ?_ | refine then_n ?_ | refine awp_cond_t rfl (by first | rfl | assumption | exact dT (by omega)) ?_ | (show AWL _ _ _ (⟨_, .move _, _, _, _, _⟩ :: _) _ _ _; refine awl_pw (wt_none rfl) (pv_move rfl rfl) rfl rfl ?_) | (show AWL _ _ _ (⟨_, .assign _, _, _, _, _⟩ :: _) _ _ _; refine awl_pw (wt_none rfl) (pv_assign rfl rfl) rfl rfl ?_) | (show AWL _ _ _ (⟨_, .load _ _, _, _, _, _⟩ :: _) _ _ _; refine awl_lw (wt_none rfl) (lv_cl1 T0 rfl rfl rfl (by solve | repeat' constructor) (by first | rfl | assumption)) rfl rfl rfl ?_) | (show AWL _ _ _ (⟨_, .load _ _, _, _, _, _⟩ :: _) _ _ _; refine awl_lw (wt_none rfl) (lv_elt_sc T0 rfl rfl rfl rfl) rfl rfl rfl ?_) | (show AWL _ _ _ (⟨_, .fieldAddr _ _ _, _, _, _, _⟩ :: _) _ _ _; refine awl_pw (wt_none rfl) (pv_fa T0 rfl rfl rfl (by simp; rfl)) rfl rfl ?_) | (show AWL _ _ _ (⟨_, .indexAddr _ _ _, _, _, _, _⟩ :: _) _ _ _; refine awl_pw (wt_none rfl) (pv_ix_t T0 rfl rfl rfl rfl (by omega) (by first | exact Int.toNat_natCast _ | rfl)) rfl rfl ?_) | (show AWL _ _ _ (⟨_, .binOp .add _ _ _ _, _, _, _, _⟩ :: _) _ _ _; refine awl_pw (wt_none rfl) (pv_add rfl rfl rfl (by first | assumption | exact wr64 (by omega))) rfl rfl ?_) | (show AWL _ _ _ (⟨_, .binOp .mul _ _ _ _, _, _, _, _⟩ :: _) _ _ _; refine awl_pw (wt_none rfl) (pv_mul rfl rfl rfl (by first | assumption | exact wr64 (by omega))) rfl rfl ?_) | (show AWL _ _ _ (⟨_, .binOp .quo _ _ _ _, _, _, _, _⟩ :: _) _ _ _; refine awl_pw (wt_none rfl) (pv_quo rfl rfl rfl (by omega) (by first | assumption | exact wr64 (by omega))) rfl rfl ?_) | (show AWL _ _ _ (⟨_, .binOp .lss _ _ _ _, _, _, _, _⟩ :: _) _ _ _; refine awl_pw (wt_none rfl) (pv_lss rfl rfl rfl) rfl rfl ?_) | (show AWL _ _ _ (⟨_, .call ⟨.builtin .len, _, _⟩, _, _, _, _⟩ :: _) _ _ _; refine awl_pw (wt_none rfl) (pv_len_t T0 rfl rfl rfl) rfl rfl ?_) | refine awl_nil ?_)
  refine awp_cut _ (awp_weak (by first | ((repeat' (first | exact True.intro | refine ⟨rfl, ?_⟩)); all_goals fail) | fail) (by solve | repeat' constructor) (mr_8 (xs := lo.shares) (ps := t.prices) (ma := lo.margin) (by omega) (by omega) (by omega) (by omega) (by omega) (fun x hx => by have := hL.1.2.2.2.2 x hx; omega) (fun x hx => by have := hpr x hx; omega) ⟨hdot0, by omega⟩ (by omega) hq2 rfl)) ?_
  rintro s h ⟨rfl, rfl⟩
  repeat (first | refine awp_seq ?_ | refine awp_region_lit rfl ?_ | (show AWL _ _ _ (⟨_, .move _, _, _, _, _⟩ :: _) _ _ _; refine awl_pw (wt_none rfl) (pv_move rfl rfl) rfl rfl ?_))
  refine awl_hw (wt_none rfl) (st_bsl T0 rfl rfl rfl rfl rfl (by solve | repeat' constructor) rfl rfl rfl rfl (by simp only [List.map_cons, List.map_nil, cellsA]; rfl) ?_)
  intro g56
  skip
  refine awl_hw (wt_none rfl) (st_app T0 rfl rfl rfl rfl rfl rfl rfl rfl rfl (by solve | repeat' constructor) (by solve | repeat' constructor) rfl rfl hn1 (by omega) (fun _ _ => trivial) ?_)
  intro a57 c57 p57
  repeat (first | refine awp_seq ?_ | refine awp_region_lit rfl ?_ | refine then_n ?_ | (show AWL _ _ _ (⟨_, .move _, _, _, _, _⟩ :: _) _ _ _; refine awl_pw (wt_none rfl) (pv_move rfl rfl) rfl rfl ?_) | (show AWL _ _ _ (⟨_, .assign _, _, _, _, _⟩ :: _) _ _ _; refine awl_pw (wt_none rfl) (pv_assign rfl rfl) rfl rfl ?_) | (show AWL _ _ _ (⟨_, .binOp .gtr _ _ _ _, _, _, _, _⟩ :: _) _ _ _; refine awl_pw (wt_none rfl) (pv_gtr rfl rfl rfl) rfl rfl ?_) | refine awl_nil ?_)
  have hcall : ∀ z, (if befN dd (t.rates.getD j 0) > limN (dot lo.shares (t.prices.getD j [])) lo.margin then befN dd (t.rates.getD j 0) - limN (dot lo.shares (t.prices.getD j [])) lo.margin else 0) = z → z = (allSt b.loans t.prices t.rates i j).call := fun z hz => by
    rw [hst, ← hz]
    show _ = callN _ _ _
    unfold callN
    split <;> omega
  have hbefe : (allSt b.loans t.prices t.rates i j).before = befN dd (t.rates.getD j 0) := by rw [hst]; rfl
  have hdn : debtsR b t i (j + 1) = debtsR b t i j ++ [(allSt b.loans t.prices t.rates i j).after] := range_step _ j
  have hcn : callsR b t i (j + 1) = callsR b t i j ++ [(allSt b.loans t.prices t.rates i j).call] := range_step _ j
  have hbn : befR b t i (j + 1) = befR b t i j ++ [(allSt b.loans t.prices t.rates i j).before] := range_step _ j
  have hbd : 0 ≤ (allSt b.loans t.prices t.rates i j).after ∧ (allSt b.loans t.prices t.rates i j).after ≤ 150000 := by
    have h1 := st_bd (show SmallL (b.loans.getD i default) by rw [hlo]; exact hL.1) hT j
    have h2 := h1.2.1 (by omega)
    refine ⟨h1.2.2.2.2.2.2, ?_⟩
    show (stN (b.loans.getD i default) t.prices t.rates j).before - (stN (b.loans.getD i default) t.prices t.rates j).call ≤ 150000
    omega
  have hnext : allSt b.loans t.prices t.rates i (j + 1) = stepN lo (allSt b.loans t.prices t.rates i j).after (t.rates.getD (j + 1) 0) (t.prices.getD (j + 1) []) := by rw [← hlo]; rfl
  by_cases hc : befN dd (t.rates.getD j 0) > limN (dot lo.shares (t.prices.getD j [])) lo.margin
  · have hce := hcall _ (if_pos hc)
    have hae : befN dd (t.rates.getD j 0) - (befN dd (t.rates.getD j 0) - limN (dot lo.shares (t.prices.getD j [])) lo.margin) = (allSt b.loans t.prices t.rates i j).after := by
      rw [show (allSt b.loans t.prices t.rates i j).after = (allSt b.loans t.prices t.rates i j).before - (allSt b.loans t.prices t.rates i j).call from rfl, hbefe, ← hce]
    repeat (first | refine awp_seq ?_ | refine awp_region_lit rfl ?_ | refine awp_cond_t rfl (by first | rfl | assumption | exact dT (by omega)) ?_ | (show AWL _ _ _ (⟨_, .move _, _, _, _, _⟩ :: _) _ _ _; refine awl_pw (wt_none rfl) (pv_move rfl rfl) rfl rfl ?_) | (show AWL _ _ _ (⟨_, .assign _, _, _, _, _⟩ :: _) _ _ _; refine awl_pw (wt_none rfl) (pv_assign rfl rfl) rfl rfl ?_) | (show AWL _ _ _ (⟨_, .binOp .sub _ _ _ _, _, _, _, _⟩ :: _) _ _ _; refine awl_pw (wt_none rfl) (pv_sub rfl rfl rfl (by first | assumption | exact wr64 (by omega))) rfl rfl ?_) | refine awl_nil ?_)
    refine awl_hw (wt_none rfl) (st_bsl T0 rfl rfl rfl rfl rfl (by solve | repeat' constructor) rfl rfl rfl rfl (by simp only [List.map_cons, List.map_nil, cellsA]; rfl) ?_)
    intro g69
    skip
    refine awl_hw (wt_none rfl) (st_app T0 rfl rfl rfl rfl rfl rfl rfl rfl rfl (by solve | repeat' constructor) (by solve | repeat' constructor) rfl rfl hn2 (by omega) (fun _ _ => trivial) ?_)
    intro a70 c70 p70
    repeat (first | (show AWL _ _ _ (⟨_, .move _, _, _, _, _⟩ :: _) _ _ _; refine awl_pw (wt_none rfl) (pv_move rfl rfl) rfl rfl ?_))
    refine awl_hw (wt_none rfl) (st_bsl T0 rfl rfl rfl rfl rfl (by solve | repeat' constructor) rfl rfl rfl rfl (by simp only [List.map_cons, List.map_nil, cellsA]; rfl) ?_)
    intro g73
    skip
    refine awl_hw (wt_none rfl) (st_app T0 rfl rfl rfl rfl rfl rfl rfl rfl rfl (by solve | repeat' constructor) (by solve | repeat' constructor) rfl rfl hn3 (by omega) (fun _ _ => trivial) ?_)
    intro a74 c74 p74
    repeat (first | refine awp_region_lit rfl ?_ | (show AWL _ _ _ (⟨_, .move _, _, _, _, _⟩ :: _) _ _ _; refine awl_pw (wt_none rfl) (pv_move rfl rfl) rfl rfl ?_) | (show AWL _ _ _ (⟨_, .assign _, _, _, _, _⟩ :: _) _ _ _; refine awl_pw (wt_none rfl) (pv_assign rfl rfl) rfl rfl ?_) | (show AWL _ _ _ (⟨_, .binOp .add _ _ _ _, _, _, _, _⟩ :: _) _ _ _; refine awl_pw (wt_none rfl) (pv_add rfl rfl rfl (by first | assumption | exact wr64 (by omega))) rfl rfl ?_) | refine awl_nil ?_)
    rw [hae]
    refine rnd_n _ _ _ ?_ ⟨j + 1, _, _, _, _, _, _, _, _, _, _, hjt, rfl, hnext, hbd.1, hbd.2, ?_, ?_, ?_, rfl, rfl⟩ (by first | ((repeat' (first | exact True.intro | refine ⟨rfl, ?_⟩)); all_goals fail) | fail) (by solve | repeat' constructor)
    · omega
    · rw [hr1, hbn, List.map_append, hbefe]; rfl
    · rw [hr2, hcn, List.map_append, ← hce]; rfl
    · rw [hr3, hdn, List.map_append]; rfl
  · have hce := hcall _ (if_neg hc)
    have hae : befN dd (t.rates.getD j 0) - 0 = (allSt b.loans t.prices t.rates i j).after := by
      rw [show (allSt b.loans t.prices t.rates i j).after = (allSt b.loans t.prices t.rates i j).before - (allSt b.loans t.prices t.rates i j).call from rfl, hbefe, ← hce]
    repeat (first | refine awp_seq ?_ | refine awp_region_lit rfl ?_ | refine awp_skip ?_ | refine awp_cond_f rfl (by first | rfl | assumption | exact dF (by omega)) ?_ | (show AWL _ _ _ (⟨_, .move _, _, _, _, _⟩ :: _) _ _ _; refine awl_pw (wt_none rfl) (pv_move rfl rfl) rfl rfl ?_) | (show AWL _ _ _ (⟨_, .assign _, _, _, _, _⟩ :: _) _ _ _; refine awl_pw (wt_none rfl) (pv_assign rfl rfl) rfl rfl ?_) | (show AWL _ _ _ (⟨_, .binOp .sub _ _ _ _, _, _, _, _⟩ :: _) _ _ _; refine awl_pw (wt_none rfl) (pv_sub rfl rfl rfl (by first | assumption | exact wr64 (by omega))) rfl rfl ?_) | refine awl_nil ?_)
    refine awl_hw (wt_none rfl) (st_bsl T0 rfl rfl rfl rfl rfl (by solve | repeat' constructor) rfl rfl rfl rfl (by simp only [List.map_cons, List.map_nil, cellsA]; rfl) ?_)
    intro g69
    skip
    refine awl_hw (wt_none rfl) (st_app T0 rfl rfl rfl rfl rfl rfl rfl rfl rfl (by solve | repeat' constructor) (by solve | repeat' constructor) rfl rfl hn2 (by omega) (fun _ _ => trivial) ?_)
    intro a70 c70 p70
    repeat (first | (show AWL _ _ _ (⟨_, .move _, _, _, _, _⟩ :: _) _ _ _; refine awl_pw (wt_none rfl) (pv_move rfl rfl) rfl rfl ?_))
    refine awl_hw (wt_none rfl) (st_bsl T0 rfl rfl rfl rfl rfl (by solve | repeat' constructor) rfl rfl rfl rfl (by simp only [List.map_cons, List.map_nil, cellsA]; rfl) ?_)
    intro g73
    skip
    refine awl_hw (wt_none rfl) (st_app T0 rfl rfl rfl rfl rfl rfl rfl rfl rfl (by solve | repeat' constructor) (by solve | repeat' constructor) rfl rfl hn3 (by omega) (fun _ _ => trivial) ?_)
    intro a74 c74 p74
    repeat (first | refine awp_region_lit rfl ?_ | (show AWL _ _ _ (⟨_, .move _, _, _, _, _⟩ :: _) _ _ _; refine awl_pw (wt_none rfl) (pv_move rfl rfl) rfl rfl ?_) | (show AWL _ _ _ (⟨_, .assign _, _, _, _, _⟩ :: _) _ _ _; refine awl_pw (wt_none rfl) (pv_assign rfl rfl) rfl rfl ?_) | (show AWL _ _ _ (⟨_, .binOp .add _ _ _ _, _, _, _, _⟩ :: _) _ _ _; refine awl_pw (wt_none rfl) (pv_add rfl rfl rfl (by first | assumption | exact wr64 (by omega))) rfl rfl ?_) | refine awl_nil ?_)
    rw [hae]
    refine rnd_n _ _ _ ?_ ⟨j + 1, _, _, _, _, _, _, _, _, _, _, hjt, rfl, hnext, hbd.1, hbd.2, ?_, ?_, ?_, rfl, rfl⟩ (by first | ((repeat' (first | exact True.intro | refine ⟨rfl, ?_⟩)); all_goals fail) | fail) (by solve | repeat' constructor)
    · omega
    · rw [hr1, hbn, List.map_append, hbefe]; rfl
    · rw [hr2, hcn, List.map_append, ← hce]; rfl
    · rw [hr3, hdn, List.map_append]; rfl
end Go.Proofs.Ytfiacjdkdjkiiaa
