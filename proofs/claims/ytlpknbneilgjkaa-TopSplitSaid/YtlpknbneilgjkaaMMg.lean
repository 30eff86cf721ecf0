/- Play. -/
import Derived.Test.YtlpknbneilgjkaaMMg0
import Derived.Test.YtlpknbneilgjkaaMS
import Derived.Test.YtlpknbneilgjkaaTt
import Derived.Test.YtlpknbneilgjkaaGOb
import Derived.Test.YtlpknbneilgjkaaGPa
import Derived.Test.YtlpknbneilgjkaaGTs
import Derived.Test.YtlpknbneilgjkaaGTy
namespace Go.Proofs.Ytlpknbneilgjkaa.M
open Go Go.RowKit Go.Tl
set_option linter.unusedVariables false
set_option maxRecDepth 100000
set_option linter.unusedSimpArgs false
set_option maxHeartbeats 2000000
attribute [local irreducible] AWP AWL AOp PV LV AWT AWE
def debtsP (b : BankD) (t : TruthD) (k : Nat) : List (List Int) := (List.range k).map fun i => debtsR b t i b.days.length
def callsP (b : BankD) (t : TruthD) (k : Nat) : List (List Int) := (List.range k).map fun i => callsR b t i b.days.length
def playA (b : BankD) (t : TruthD) : AV :=
  if faultN b ≠ 0 then .tup [noneA, noneA, intA (faultN b)] else if truthB b t = false then .tup [noneA, noneA, intA 2] else .tup [.t (rowsT false (debtsP b t b.loans.length)), .t (rowsT false (callsP b t b.loans.length)), intA 0]
theorem play_p (cp : Bool) (b : BankD) (t : TruthD) (hS : Short b) (h1 : t.prices.length ≤ 1000) (h2 : t.rates.length ≤ 1000) (h3 : ∀ k, k < t.prices.length → (t.prices.getD k []).length ≤ 1000) : PCall Try.prog 15 [bankA cp b, truthA t] (fun r => r = playA b t) := by
  refine acall_of_awp T0 Try.func15 rfl rfl rfl ?_
  repeat (first | refine awp_seq ?_ | refine awp_region_lit rfl ?_)
  refine awl_hw (wt_none rfl) (st_box rfl rfl rfl (by simp only [cellsA]; rfl) rfl rfl ?_)
  intro g2
  skip
  refine awl_hw (wt_none rfl) (st_box rfl rfl rfl (by simp only [cellsA]; rfl) rfl rfl ?_)
  intro g3
  repeat (first | refine awp_seq ?_ | refine awp_region_lit rfl ?_ | (show AWL _ _ _ (⟨_, .assign _, _, _, _, _⟩ :: _) _ _ _; refine awl_pw (wt_none rfl) (pv_assign rfl rfl) rfl rfl ?_) | (show AWL _ _ _ (⟨_, .load _ _, _, _, _, _⟩ :: _) _ _ _; refine awl_lw (wt_none rfl) (lv_cla T0 rfl rfl rfl (by solve | repeat' constructor) rfl) rfl rfl rfl ?_) | refine awl_nil ?_)
  refine awl_hw (wt_none rfl) (st_call T0 (check_p cp b hS) rfl rfl rfl rfl (by first | exact callee_lit | exact callee_v | exact callee_fn) (by solve | repeat' constructor) rfl rfl ?_)
  rintro _ rfl
  by_cases hf : faultN b = 0
  case neg =>
    repeat (first | refine awp_seq ?_ | refine awp_region_lit rfl ?_ | refine awp_ret ?_ | with_reducible refine then_n ?_ | with_reducible refine then_r ?_ | refine awp_cond_t rfl (by first | rfl | assumption | exact dT (by omega)) ?_ | (show AWL _ _ _ (⟨_, .move _, _, _, _, _⟩ :: _) _ _ _; refine awl_pw (wt_none rfl) (pv_move rfl rfl) rfl rfl ?_) | (show AWL _ _ _ (⟨_, .assign _, _, _, _, _⟩ :: _) _ _ _; refine awl_pw (wt_none rfl) (pv_assign rfl rfl) rfl rfl ?_) | (show AWL _ _ _ (⟨_, .binOp .neq _ _ _ _, _, _, _, _⟩ :: _) _ _ _; refine awl_pw (wt_none rfl) (pv_neq rfl rfl rfl) rfl rfl ?_) | refine awl_nil ?_)
    refine body_p (.cons rfl (.cons rfl (.cons rfl .nil))) ?_
    simp only [playA, ne_eq, hf, not_false_eq_true, if_true]
    rfl
  have hv := valid_of hf
  repeat (first | refine awp_seq ?_ | refine awp_region_lit rfl ?_ | refine awp_skip ?_ | with_reducible refine then_n ?_ | refine awp_cond_f rfl (by first | rfl | assumption | exact dF (by omega)) ?_ | (show AWL _ _ _ (⟨_, .move _, _, _, _, _⟩ :: _) _ _ _; refine awl_pw (wt_none rfl) (pv_move rfl rfl) rfl rfl ?_) | (show AWL _ _ _ (⟨_, .assign _, _, _, _, _⟩ :: _) _ _ _; refine awl_pw (wt_none rfl) (pv_assign rfl rfl) rfl rfl ?_) | (show AWL _ _ _ (⟨_, .load _ _, _, _, _, _⟩ :: _) _ _ _; refine awl_lw (wt_none rfl) (lv_cla T0 rfl rfl rfl (by solve | repeat' constructor) rfl) rfl rfl rfl ?_) | (show AWL _ _ _ (⟨_, .binOp .neq _ _ _ _, _, _, _, _⟩ :: _) _ _ _; refine awl_pw (wt_none rfl) (pv_neq rfl rfl rfl) rfl rfl ?_) | refine awl_nil ?_)
  refine awl_hw (wt_none rfl) (st_acall T0 (with_p cp b t hv h1 h2 h3) rfl rfl rfl rfl (by first | exact callee_lit | exact callee_v | exact callee_fn) (by solve | repeat' constructor) rfl rfl (by first | ((repeat' (first | exact SubH.refl _ | apply SubH.cons | exact Pick.here | apply Pick.there)); all_goals fail) | fail) (fun _ _ => trivial) ?_)
  rintro r h (⟨hb, rfl, rfl⟩ | ⟨hb, g, gm, rfl, rfl⟩)
  · repeat (first | refine awp_seq ?_ | refine awp_region_lit rfl ?_ | refine awp_ret ?_ | with_reducible refine then_n ?_ | with_reducible refine then_r ?_ | refine awp_cond_t rfl (by first | rfl | assumption | exact dT (by omega)) ?_ | (show AWL _ _ _ (⟨_, .move _, _, _, _, _⟩ :: _) _ _ _; refine awl_pw (wt_none rfl) (pv_move rfl rfl) rfl rfl ?_) | (show AWL _ _ _ (⟨_, .assign _, _, _, _, _⟩ :: _) _ _ _; refine awl_pw (wt_none rfl) (pv_assign rfl rfl) rfl rfl ?_) | (show AWL _ _ _ (⟨_, .unOp .not _ _, _, _, _, _⟩ :: _) _ _ _; refine awl_pw (wt_none rfl) (pv_not rfl rfl) rfl rfl ?_) | (show AWL _ _ _ (⟨_, .extract _ _, _, _, _, _⟩ :: _) _ _ _; refine awl_pw (wt_none rfl) (pv_extract rfl rfl rfl) rfl rfl ?_) | refine awl_nil ?_)
    refine body_p (.cons rfl (.cons rfl (.cons rfl .nil))) ?_
    simp only [playA, ne_eq, hf, not_true_eq_false, if_false, hb, if_true]
    rfl
  simp only [workH, List.cons_append, List.nil_append]
  repeat (first | refine awp_seq ?_ | refine awp_block ?_ | refine awp_region_lit rfl ?_ | refine awp_skip ?_ | with_reducible refine then_n ?_ | refine awp_cond_f rfl (by first | rfl | assumption | exact dF (by omega)) ?_ | (show AWL _ _ _ (⟨_, .move _, _, _, _, _⟩ :: _) _ _ _; refine awl_pw (wt_none rfl) (pv_move rfl rfl) rfl rfl ?_) | (show AWL _ _ _ (⟨_, .assign _, _, _, _, _⟩ :: _) _ _ _; refine awl_pw (wt_none rfl) (pv_assign rfl rfl) rfl rfl ?_) | (show AWL _ _ _ (⟨_, .load _ _, _, _, _, _⟩ :: _) _ _ _; refine awl_lw (wt_none rfl) (lv_cl1 T0 rfl rfl rfl (by solve | repeat' constructor) (by first | rfl | assumption)) rfl rfl rfl ?_) | (show AWL _ _ _ (⟨_, .fieldAddr _ _ _, _, _, _, _⟩ :: _) _ _ _; refine awl_pw (wt_none rfl) (pv_fa T0 rfl rfl rfl (by simp; rfl)) rfl rfl ?_) | (show AWL _ _ _ (⟨_, .call ⟨.builtin .len, _, _⟩, _, _, _, _⟩ :: _) _ _ _; refine awl_pw (wt_none rfl) (pv_len_t T0 rfl rfl rfl) rfl rfl ?_) | (show AWL _ _ _ (⟨_, .unOp .not _ _, _, _, _, _⟩ :: _) _ _ _; refine awl_pw (wt_none rfl) (pv_not rfl rfl) rfl rfl ?_) | (show AWL _ _ _ (⟨_, .extract _ _, _, _, _, _⟩ :: _) _ _ _; refine awl_pw (wt_none rfl) (pv_extract rfl rfl rfl) rfl rfl ?_) | refine awl_nil ?_)
  have hd4 := hv.days
  have hl4 := hv.loans
  obtain ⟨l1, l2⟩ := truthB_len hb
  have hT := truth_small hv hb
  refine awp_ghost (ghost_nilrow 29 1) ?_
  refine awp_ghost (ghost_nilrow 29 1) ?_
  refine awp_loop (fun m s h => ∃ (k : Nat) (a : Option Addr) (c : Nat) (a' : Option Addr) (c' : Nat) (rows rows' : List (List AV)) (l : List (List Int × AV)), k ≤ b.loans.length ∧ m = b.loans.length - k ∧ KnownL (allSt b.loans t.prices t.rates) l ∧
    rows = (List.range k).map (fun i => lstRow (debtsR b t i b.days.length)) ∧ rows' = (List.range k).map (fun i => lstRow (callsR b t i b.days.length)) ∧
    s = [(2, .v (.pointer (some ⟨g2, 0, none⟩))), (3, .v (.pointer (some ⟨g3, 0, none⟩))), (4, .v (.slice a k c)), (5, .v (.slice a' k c')), (8, .v (.pointer (some ⟨g, 0, none⟩))), (30, intA b.loans.length), (31, intA k)] ∧
    h = [.cl g2 69 [intA b.stocks, .t (daysT cp b.days), .t (loansT false b.loans)], .cl g3 71 [.t (rowsT false t.prices), .t (intsT false t.rates)], .cl g 219 [intA b.stocks, .t (daysT cp b.days), .t (loansT false b.loans), .t (arrsT t.prices), .t (intsT false t.rates), .v (.map (some gm))], mapE gm 2 l,
      .rw (.slice a k c) 29 1 rows, .rw (.slice a' k c') 29 1 rows']) ?_ ⟨0, _, _, _, _, _, _, [], Nat.zero_le _, rfl, KnownL.nil, rfl, rfl, rfl, rfl⟩ (by first | ((repeat' (first | exact True.intro | refine ⟨rfl, ?_⟩)); all_goals fail) | fail) (by solve | repeat' constructor)
  rintro m s h ⟨k, a, c, a', c', rows, rows', l, hk, rfl, hl, hrows, hrows', rfl, rfl⟩
  by_cases hlt : k < b.loans.length
  case neg =>
    repeat (first | refine awp_seq ?_ | refine awp_region_lit rfl ?_ | refine awp_exit ?_ | refine awp_ret ?_ | refine awp_cond_f rfl (by first | rfl | assumption | exact dF (by omega)) ?_ | (show AWL _ _ _ (⟨_, .move _, _, _, _, _⟩ :: _) _ _ _; refine awl_pw (wt_none rfl) (pv_move rfl rfl) rfl rfl ?_) | (show AWL _ _ _ (⟨_, .assign _, _, _, _, _⟩ :: _) _ _ _; refine awl_pw (wt_none rfl) (pv_assign rfl rfl) rfl rfl ?_) | (show AWL _ _ _ (⟨_, .binOp .lss _ _ _ _, _, _, _, _⟩ :: _) _ _ _; refine awl_pw (wt_none rfl) (pv_lss rfl rfl rfl) rfl rfl ?_) | refine awl_nil ?_)
    have ek : k = b.loans.length := by omega
    refine bodyQ_ghost (ghost_freeze (E := 29) (sz := 1) (n := k) (rows := rows) (d := 4) (fun q => [intsT true (debtsR b t q b.days.length)]) (by solve | repeat' constructor) rfl (by rw [hrows]; simp) ?_) ?_
    · intro q hq
      rw [hrows]
      simp [List.getD_eq_getElem?_getD, hq, lstRow, AV.ofTr, intsT]
    refine bodyQ_ghost (ghost_freeze (E := 29) (sz := 1) (n := k) (rows := rows') (d := 5) (fun q => [intsT true (callsR b t q b.days.length)]) (by solve | repeat' constructor) rfl (by rw [hrows']; simp) ?_) ?_
    · intro q hq
      rw [hrows']
      simp [List.getD_eq_getElem?_getD, hq, lstRow, AV.ofTr, intsT]
    have hle : ∀ (f : Nat → List Int), TrLe (.sl true 1 k (fun q => [intsT true (f q)])) (rowsT false ((List.range b.loans.length).map f)) := fun f => by
      have e : rowsT false ((List.range b.loans.length).map f) = .sl false 1 k (fun q => [intsT false (((List.range b.loans.length).map f).getD q [])]) := by simp [rowsT, ek]
      rw [e]
      refine ofn_le fun q hq => ⟨rfl, one_le ?_⟩
      have e2 : ((List.range b.loans.length).map f).getD q [] = f q := by simp [List.getD_eq_getElem?_getD, show q < b.loans.length by omega]
      rw [e2]
      exact ints_le _
    refine bodyQ_ghost (ghost_to (d := 4) rfl (hle fun i => debtsR b t i b.days.length)) ?_
    refine bodyQ_ghost (ghost_to (d := 5) rfl (hle fun i => callsR b t i b.days.length)) ?_
    refine body_p (.cons rfl (.cons rfl (.cons rfl .nil))) ?_
    simp only [playA, ne_eq, hf, not_true_eq_false, if_false, hb, debtsP, callsP]
    rfl
  have hn : rows.length = k := by rw [hrows]; simp
  have hn' : rows'.length = k := by rw [hrows']; simp
  have hL := hv.loan k hlt
  have hst := hv.st
  repeat (first | refine awp_seq ?_ | refine awp_block ?_ | refine awp_region_lit rfl ?_ | refine awp_skip ?_ | refine awp_cond_t rfl (by first | rfl | assumption | exact dT (by omega)) ?_ | (show AWL _ _ _ (⟨_, .move _, _, _, _, _⟩ :: _) _ _ _; refine awl_pw (wt_none rfl) (pv_move rfl rfl) rfl rfl ?_) | (show AWL _ _ _ (⟨_, .assign _, _, _, _, _⟩ :: _) _ _ _; refine awl_pw (wt_none rfl) (pv_assign rfl rfl) rfl rfl ?_) | (show AWL _ _ _ (⟨_, .load _ _, _, _, _, _⟩ :: _) _ _ _; refine awl_lw (wt_none rfl) (lv_cl1 T0 rfl rfl rfl (by solve | repeat' constructor) (by first | rfl | assumption)) rfl rfl rfl ?_) | (show AWL _ _ _ (⟨_, .fieldAddr _ _ _, _, _, _, _⟩ :: _) _ _ _; refine awl_pw (wt_none rfl) (pv_fa T0 rfl rfl rfl (by simp; rfl)) rfl rfl ?_) | (show AWL _ _ _ (⟨_, .binOp .lss _ _ _ _, _, _, _, _⟩ :: _) _ _ _; refine awl_pw (wt_none rfl) (pv_lss rfl rfl rfl) rfl rfl ?_) | (show AWL _ _ _ (⟨_, .call ⟨.builtin .len, _, _⟩, _, _, _, _⟩ :: _) _ _ _; refine awl_pw (wt_none rfl) (pv_len_t T0 rfl rfl rfl) rfl rfl ?_) | refine awl_nil ?_)
  refine awp_ghost (ghost_nilrow 3 1) ?_
  refine awp_ghost (ghost_nilrow 3 1) ?_
  refine awp_loop (fun m s h => ∃ (j : Nat) (e : Option Addr) (f : Nat) (e' : Option Addr) (f' : Nat) (rs rs' : List (List AV)) (l : List (List Int × AV)), j ≤ b.days.length ∧ m = b.days.length - j ∧ KnownL (allSt b.loans t.prices t.rates) l ∧
    rs = (debtsR b t k j).map intRow ∧ rs' = (callsR b t k j).map intRow ∧
    s = [(2, .v (.pointer (some ⟨g2, 0, none⟩))), (3, .v (.pointer (some ⟨g3, 0, none⟩))), (4, .v (.slice a k c)), (5, .v (.slice a' k c')), (8, .v (.pointer (some ⟨g, 0, none⟩))), (30, intA b.loans.length), (31, intA k), (10, intA k), (11, .v (.slice e j f)), (12, .v (.slice e' j f')), (36, intA b.days.length), (37, intA j)] ∧
    h = [.cl g2 69 [intA b.stocks, .t (daysT cp b.days), .t (loansT false b.loans)], .cl g3 71 [.t (rowsT false t.prices), .t (intsT false t.rates)], .cl g 219 [intA b.stocks, .t (daysT cp b.days), .t (loansT false b.loans), .t (arrsT t.prices), .t (intsT false t.rates), .v (.map (some gm))], mapE gm 2 l,
      .rw (.slice a k c) 29 1 rows, .rw (.slice a' k c') 29 1 rows', .rw (.slice e j f) 3 1 rs, .rw (.slice e' j f') 3 1 rs']) ?_ ⟨0, _, _, _, _, _, _, l, Nat.zero_le _, rfl, hl, rfl, rfl, rfl, rfl⟩ (by first | ((repeat' (first | exact True.intro | refine ⟨rfl, ?_⟩)); all_goals fail) | fail) (by solve | repeat' constructor)
  rintro m s h ⟨j, e, f, e', f', rs, rs', l, hj, rfl, hl, hrs, hrs', rfl, rfl⟩
  by_cases hjt : j < b.days.length
  case neg =>
    have ej : j = b.days.length := by omega
    refine awp_ghost (ghost_freeze (E := 3) (sz := 1) (n := (debtsR b t k b.days.length).length) (rows := rs) (d := 11) (fun q => [.sc (.int .i64 ((debtsR b t k b.days.length).getD q 0))]) (by solve | repeat' constructor) rfl (by rw [hrs, ej]; simp) ?_) ?_
    · rw [hrs, ej]
      exact intRows_tree _
    refine awp_ghost (ghost_freeze (E := 3) (sz := 1) (n := (callsR b t k b.days.length).length) (rows := rs') (d := 12) (fun q => [.sc (.int .i64 ((callsR b t k b.days.length).getD q 0))]) (by solve | repeat' constructor) rfl (by rw [hrs', ej]; simp) ?_) ?_
    · rw [hrs', ej]
      exact intRows_tree _
    repeat (first | refine awp_seq ?_ | refine awp_region_lit rfl ?_ | refine awp_exit ?_ | refine awp_cond_f rfl (by first | rfl | assumption | exact dF (by omega)) ?_ | (show AWL _ _ _ (⟨_, .move _, _, _, _, _⟩ :: _) _ _ _; refine awl_pw (wt_none rfl) (pv_move rfl rfl) rfl rfl ?_) | (show AWL _ _ _ (⟨_, .binOp .lss _ _ _ _, _, _, _, _⟩ :: _) _ _ _; refine awl_pw (wt_none rfl) (pv_lss rfl rfl rfl) rfl rfl ?_) | refine awl_nil ?_)
    refine awl_hw (wt_none rfl) (st_bsl T0 rfl rfl rfl rfl rfl (by solve | repeat' constructor) rfl rfl rfl rfl (by simp only [List.map_cons, List.map_nil, cellsA]; rfl) ?_)
    intro g58
    skip
    refine awl_hw (wt_none rfl) (st_app T0 rfl rfl rfl rfl rfl rfl rfl rfl rfl (by solve | repeat' constructor) (by solve | repeat' constructor) rfl rfl hn (by omega) (fun _ _ => trivial) ?_)
    intro a59 c59 p59
    repeat (first | (show AWL _ _ _ (⟨_, .move _, _, _, _, _⟩ :: _) _ _ _; refine awl_pw (wt_none rfl) (pv_move rfl rfl) rfl rfl ?_))
    refine awl_hw (wt_none rfl) (st_bsl T0 rfl rfl rfl rfl rfl (by solve | repeat' constructor) rfl rfl rfl rfl (by simp only [List.map_cons, List.map_nil, cellsA]; rfl) ?_)
    intro g62
    skip
    refine awl_hw (wt_none rfl) (st_app T0 rfl rfl rfl rfl rfl rfl rfl rfl rfl (by solve | repeat' constructor) (by solve | repeat' constructor) rfl rfl hn' (by omega) (fun _ _ => trivial) ?_)
    intro a63 c63 p63
    repeat (first | refine awp_region_lit rfl ?_ | (show AWL _ _ _ (⟨_, .move _, _, _, _, _⟩ :: _) _ _ _; refine awl_pw (wt_none rfl) (pv_move rfl rfl) rfl rfl ?_) | (show AWL _ _ _ (⟨_, .assign _, _, _, _, _⟩ :: _) _ _ _; refine awl_pw (wt_none rfl) (pv_assign rfl rfl) rfl rfl ?_) | (show AWL _ _ _ (⟨_, .binOp .add _ _ _ _, _, _, _, _⟩ :: _) _ _ _; refine awl_pw (wt_none rfl) (pv_add rfl rfl rfl (by first | assumption | exact wr64 (by omega))) rfl rfl ?_) | refine awl_nil ?_)
    refine rnd_n _ _ _ ?_ ⟨k + 1, _, _, _, _, _, _, l, hlt, rfl, hl, ?_, ?_, rfl, rfl⟩ (by first | ((repeat' (first | exact True.intro | refine ⟨rfl, ?_⟩)); all_goals fail) | fail) (by solve | repeat' constructor)
    · omega
    · rw [hrows, range_step]; rfl
    · rw [hrows', range_step]; rfl
  have hm : rs.length = j := by rw [hrs]; simp [debtsR]
  have hm' : rs'.length = j := by rw [hrs']; simp [callsR]
  have hbd := st_bd hL.1 hT j
  have hbd2 := hbd.2.1 (by omega)
  repeat (first | refine awp_seq ?_ | refine awp_block ?_ | refine awp_region_lit rfl ?_ | refine awp_skip ?_ | refine awp_cond_t rfl (by first | rfl | assumption | exact dT (by omega)) ?_ | (show AWL _ _ _ (⟨_, .move _, _, _, _, _⟩ :: _) _ _ _; refine awl_pw (wt_none rfl) (pv_move rfl rfl) rfl rfl ?_) | (show AWL _ _ _ (⟨_, .assign _, _, _, _, _⟩ :: _) _ _ _; refine awl_pw (wt_none rfl) (pv_assign rfl rfl) rfl rfl ?_) | (show AWL _ _ _ (⟨_, .build _ _, _, _, _, _⟩ :: _) _ _ _; refine awl_pw (wt_none rfl) (pv_build T0 rfl rfl rfl (by simp only [Value.cells, List.toList_toArray, List.map_cons, List.map_nil]; rfl) (by first | ((repeat' (first | exact BParts.nil | apply BParts.cons | rfl)); all_goals fail) | fail) (by first | ((repeat' (first | exact FillA.nil | exact Sp.done | apply FillA.cons | apply Sp.put | apply Sp.skip | (simp only [cellsA]; rfl) | rfl)); all_goals fail) | fail)) rfl rfl ?_) | (show AWL _ _ _ (⟨_, .binOp .lss _ _ _ _, _, _, _, _⟩ :: _) _ _ _; refine awl_pw (wt_none rfl) (pv_lss rfl rfl rfl) rfl rfl ?_) | refine awl_nil ?_)
  refine awl_hw (wt_none rfl) (st_acall T0 (state_p g gm cp b t.prices t.rates k hlt (by omega) h1 h2 hL.1 hT (truth_rows hv hb hlt) (by omega) j (by omega) (by omega) (by omega) l hl) rfl rfl rfl rfl (by first | exact callee_lit | exact callee_v | exact callee_fn) (by solve | repeat' constructor) rfl rfl (by first | ((repeat' (first | exact SubH.refl _ | apply SubH.cons | exact Pick.here | apply Pick.there)); all_goals fail) | fail) (fun _ _ => trivial) ?_)
  rintro r h ⟨rfl, l', hl', rfl⟩
  simp only [workH, List.cons_append, List.nil_append]
  skip
  refine awl_hw (wt_none rfl) (st_alloc T0 rfl rfl rfl rfl (by simp only [Value.cells, List.toList_toArray, List.map_cons, List.map_nil]; rfl) ?_)
  intro g14
  repeat (first | with_reducible refine then_n ?_ | (show AWL _ _ _ (⟨_, .store _ _ _, _, _, _, _⟩ :: _) _ _ _; refine awl_hw (wt_none rfl) (st_store T0 rfl rfl rfl rfl rfl (by simp only [cellsA]; rfl) rfl rfl rfl (by solve | repeat' constructor) (by solve | repeat' constructor) trivial ?_)) | refine awl_nil ?_)
  have hdn : debtsR b t k (j + 1) = debtsR b t k j ++ [(allSt b.loans t.prices t.rates k j).after] := range_step _ j
  have hcn : callsR b t k (j + 1) = callsR b t k j ++ [(allSt b.loans t.prices t.rates k j).call] := range_step _ j
  refine awp_cutB _ (awp_weak (by first | ((repeat' (first | exact True.intro | refine ⟨rfl, ?_⟩)); all_goals fail) | fail) (by solve | repeat' constructor) (mg_15 (s := allSt b.loans t.prices t.rates k j) ⟨by show -1000000000 ≤ (stN _ t.prices t.rates j).before; omega, by show (stN _ t.prices t.rates j).before ≤ 1000000000; omega⟩ ⟨by show -1000000000 ≤ (stN _ t.prices t.rates j).call; omega, by show (stN _ t.prices t.rates j).call ≤ 1000000000; omega⟩ (by omega) hm hm' rfl)) ?_
  rintro s h ⟨d1, c1, d2, c2, rfl, rfl⟩
  repeat (first | refine awp_region_lit rfl ?_ | (show AWL _ _ _ (⟨_, .move _, _, _, _, _⟩ :: _) _ _ _; refine awl_pw (wt_none rfl) (pv_move rfl rfl) rfl rfl ?_) | (show AWL _ _ _ (⟨_, .binOp .add _ _ _ _, _, _, _, _⟩ :: _) _ _ _; refine awl_pw (wt_none rfl) (pv_add rfl rfl rfl (by first | assumption | exact wr64 (by omega))) rfl rfl ?_) | refine awl_nil ?_)
  refine rnd_n _ _ _ ?_ ⟨j + 1, _, _, _, _, _, _, l', hjt, rfl, hl', ?_, ?_, rfl, rfl⟩ (by first | ((repeat' (first | exact True.intro | refine ⟨rfl, ?_⟩)); all_goals fail) | fail) (by solve | repeat' constructor)
  · omega
  · rw [hrs, hdn, List.map_append]; rfl
  · rw [hrs', hcn, List.map_append]; rfl
end Go.Proofs.Ytlpknbneilgjkaa.M
