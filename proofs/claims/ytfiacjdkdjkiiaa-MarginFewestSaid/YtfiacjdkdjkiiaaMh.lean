/- A loan that is called. -/
import Derived.Test.YtfiacjdkdjkiiaaMf
import Derived.Test.YtfiacjdkdjkiiaaTlh
import Derived.Test.YtfiacjdkdjkiiaaGTx
import Derived.Test.YtfiacjdkdjkiiaaMe0
import Derived.Test.YtfiacjdkdjkiiaaGCo
import Derived.Test.YtfiacjdkdjkiiaaGWb
namespace Go.Proofs.Ytfiacjdkdjkiiaa
open Go Go.RowKit Go.Tl
set_option linter.unusedVariables false
set_option linter.unusedSimpArgs false
set_option maxHeartbeats 1000000
attribute [local irreducible] AWP AWL AOp PV LV AWT AWE
abbrev zstA : AV := .ag [intA 0, intA 0, intA 0]
abbrev zarrA : AV := .ag [intA 0, intA 0, intA 0, intA 0]
/-- what is returned for a loan on a day: its state, the prices, the error of a sale -/
def calledA (b : BankD) (t : TruthD) (loan day : Int) : AV :=
  if faultN b ≠ 0 then .tup [zstA, zarrA, intA (faultN b)]
  else if truthB b t = false ∨ spotB b.loans.length b.days.length loan day = false then .tup [zstA, zarrA, intA 2]
  else if (allSt b.loans t.prices t.rates loan.toNat day.toNat).call = 0 then .tup [stA (allSt b.loans t.prices t.rates loan.toNat day.toNat), zarrA, intA 7]
  else .tup [stA (allSt b.loans t.prices t.rates loan.toNat day.toNat), .ag (arrRow (t.prices.getD day.toNat [])), intA 0]
theorem spot_p (cp : Bool) (b : BankD) (loan day : Int) (hd : b.days.length ≤ 1000) (hl : b.loans.length ≤ 1000) : PCall Try.prog 64 [bankA cp b, .ag [intA loan, intA day]] (fun r => r = boolA (spotB b.loans.length b.days.length loan day)) := pcall_below fun w S vs hvs => by
  obtain ⟨v, us, rfl, h1, hvs⟩ := rels1 hvs
  obtain ⟨v2, us, rfl, h2, hvs⟩ := rels1 hvs
  obtain rfl := rels0 hvs
  obtain ⟨da, dc, la, lc, rfl, hc, hB⟩ := bank_at h1
  have e2 : v2 = .agg #[.int .i64 loan, .int .i64 day] := by
    obtain ⟨vs, rfl, hv⟩ := ag_inv h2
    obtain ⟨v1, us, rfl, k1, hv⟩ := rels1 hv
    obtain ⟨v2, us, rfl, k2, hv⟩ := rels1 hv
    obtain rfl := rels0 hv
    rw [k1.lit_inv, k2.lit_inv]
  subst e2
  exact (spot_any b.stocks da la b.days.length dc b.loans.length lc loan day w hd hl).mono fun e w' ⟨e1, hb⟩ => ⟨_, _, e1, rfl, hb, .v _⟩
theorem spot_v (cp : Bool) (b : BankD) (loan day : Int) (hS : Short b) {v : Bool} (h : spotB b.loans.length b.days.length loan day = v) : PCall Try.prog 64 [bankA cp b, .ag [intA loan, intA day]] (fun r => r = boolA v) := by
  subst h; exact spot_p cp b loan day hS.2.2.1 hS.2.2.2
theorem called_p (cp : Bool) (b : BankD) (t : TruthD) (loan day : Int) (hS : Short b) (h1 : t.prices.length ≤ 1000) (h2 : t.rates.length ≤ 1000) (h3 : ∀ k, k < t.prices.length → (t.prices.getD k []).length ≤ 1000) :
    PCall Try.prog 78 [bankA cp b, truthA t, .ag [intA loan, intA day]] (fun r => r = calledA b t loan day) := by
  refine acall_of_awp T0 Try.func78 rfl rfl rfl ?_
  repeat (first | refine awp_seq ?_ | refine awp_region_lit rfl ?_)
  refine awl_hw (by first | exact wt_none rfl | exact wt_some' rfl rfl rfl rfl (by first | rfl | assumption | exact dT (by omega) | exact dF (by omega))) (st_box rfl rfl rfl (by simp only [cellsA]; rfl) rfl rfl ?_)
  intro g3
  skip
  refine awl_hw (by first | exact wt_none rfl | exact wt_some' rfl rfl rfl rfl (by first | rfl | assumption | exact dT (by omega) | exact dF (by omega))) (st_box rfl rfl rfl (by simp only [cellsA]; rfl) rfl rfl ?_)
  intro g4
  skip
  refine awl_hw (by first | exact wt_none rfl | exact wt_some' rfl rfl rfl rfl (by first | rfl | assumption | exact dT (by omega) | exact dF (by omega))) (st_box rfl rfl rfl (by simp only [cellsA]; rfl) rfl rfl ?_)
  intro g5
  skip
  refine awl_hw (by first | exact wt_none rfl | exact wt_some' rfl rfl rfl rfl (by first | rfl | assumption | exact dT (by omega) | exact dF (by omega))) (st_alloc T0 rfl rfl rfl rfl (by simp only [Value.cells, List.toList_toArray, List.map_cons, List.map_nil]; rfl) ?_)
  intro g6
  skip
  refine awl_hw (by first | exact wt_none rfl | exact wt_some' rfl rfl rfl rfl (by first | rfl | assumption | exact dT (by omega) | exact dF (by omega))) (st_alloc T0 rfl rfl rfl rfl (by simp only [Value.cells, List.toList_toArray, List.map_cons, List.map_nil]; rfl) ?_)
  intro g7
  repeat (first | refine awp_seq ?_ | refine awp_region_lit rfl ?_ | ((first | (show AWL _ _ _ (⟨_, .assign _, _, _, _, _⟩ :: _) _ _ _; refine awl_pw ?w (pv_assign rfl rfl) rfl rfl ?_) | (show AWL _ _ _ (⟨_, .load _ _, _, _, _, _⟩ :: _) _ _ _; refine awl_lw ?w (lv_cla T0 rfl rfl rfl (by solve | repeat' constructor) rfl) rfl rfl rfl ?_)); case w => first | exact wt_none rfl | exact wt_some' rfl rfl rfl rfl (by first | rfl | assumption | exact dT (by omega) | exact dF (by omega))) | refine awl_nil ?_)
  refine awl_hw (by first | exact wt_none rfl | exact wt_some' rfl rfl rfl rfl (by first | rfl | assumption | exact dT (by omega) | exact dF (by omega))) (st_call T0 (check_p cp b hS) rfl rfl rfl rfl (by first | exact callee_lit | exact callee_v | exact callee_fn) (by solve | repeat' constructor) rfl rfl ?_)
  rintro _ rfl
  by_cases hf : faultN b = 0
  case neg =>
    repeat (first | refine awp_seq ?_ | refine awp_region_lit rfl ?_ | refine then_n ?_ | refine awp_cond_t rfl (by first | rfl | assumption | exact dT (by omega)) ?_ | ((first | (show AWL _ _ _ (⟨_, .move _, _, _, _, _⟩ :: _) _ _ _; refine awl_pw ?w (pv_move rfl rfl) rfl rfl ?_) | (show AWL _ _ _ (⟨_, .assign _, _, _, _, _⟩ :: _) _ _ _; refine awl_pw ?w (pv_assign rfl rfl) rfl rfl ?_) | (show AWL _ _ _ (⟨_, .binOp .neq _ _ _ _, _, _, _, _⟩ :: _) _ _ _; refine awl_pw ?w (pv_neq rfl rfl rfl) rfl rfl ?_)); case w => first | exact wt_none rfl | exact wt_some' rfl rfl rfl rfl (by first | rfl | assumption | exact dT (by omega) | exact dF (by omega))) | refine awl_nil ?_)
    refine awp_tree T0 [(0, 1), (1, 1), (2, 0), (3, 2), (4, 3), (5, 0)] (.op 0 1 (.op 1 1 (.op 2 0 (.op 3 2 (.op 4 3 (.op 5 0 .stop)))))) _ rfl (by kernel_rfl) (SubH.refl _) ?_
    refine awt_lo rfl (wt_none rfl) (lv_cla T0 rfl rfl rfl (by solve | repeat' constructor) rfl) rfl rfl rfl ?_
    refine awt_lo rfl (wt_none rfl) (lv_cla T0 rfl rfl rfl (by solve | repeat' constructor) rfl) rfl rfl rfl ?_
    refine awt_po rfl (wt_none rfl) (pv_move rfl rfl) rfl rfl ?_
    refine awt_h (hm := []) rfl (wt_none rfl) (by solve | repeat' constructor) rfl (st_same T0 rfl rfl rfl rfl rfl (by simp only [cellsA]; rfl) rfl rfl rfl (by solve | repeat' constructor) rfl ?_)
    refine awt_s (md := fun _ => True) rfl (wt_none rfl) (st_store T0 rfl rfl rfl rfl rfl (by simp only [cellsA]; rfl) rfl rfl rfl (by solve | repeat' constructor) (by solve | repeat' constructor) trivial ?_)
    refine awe_p rfl (wt_none rfl) (pv_assign rfl rfl) rfl rfl ?_
    refine awe_end ?_
    repeat (first | refine awp_ret ?_ | refine then_r ?_)
    refine body_p (.cons ⟨g6, _, _, _, _, rfl, rfl, (by solve | repeat' constructor), by simp, .inl rfl, rfl⟩ (.cons ⟨g7, _, _, _, _, rfl, rfl, (by solve | repeat' constructor), by simp, .inl rfl, rfl⟩ (.cons rfl .nil))) ?_
    simp only [calledA, ne_eq, hf, not_false_eq_true, if_true]
    rfl
  have hv := valid_of hf
  repeat (first | refine awp_seq ?_ | refine awp_region_lit rfl ?_ | refine awp_skip ?_ | refine then_n ?_ | refine awp_cond_f rfl (by first | rfl | assumption | exact dF (by omega)) ?_ | ((first | (show AWL _ _ _ (⟨_, .move _, _, _, _, _⟩ :: _) _ _ _; refine awl_pw ?w (pv_move rfl rfl) rfl rfl ?_) | (show AWL _ _ _ (⟨_, .assign _, _, _, _, _⟩ :: _) _ _ _; refine awl_pw ?w (pv_assign rfl rfl) rfl rfl ?_) | (show AWL _ _ _ (⟨_, .load _ _, _, _, _, _⟩ :: _) _ _ _; refine awl_lw ?w (lv_cla T0 rfl rfl rfl (by solve | repeat' constructor) rfl) rfl rfl rfl ?_) | (show AWL _ _ _ (⟨_, .binOp .neq _ _ _ _, _, _, _, _⟩ :: _) _ _ _; refine awl_pw ?w (pv_neq rfl rfl rfl) rfl rfl ?_)); case w => first | exact wt_none rfl | exact wt_some' rfl rfl rfl rfl (by first | rfl | assumption | exact dT (by omega) | exact dF (by omega))) | refine awl_nil ?_)
  refine awl_hw (by first | exact wt_none rfl | exact wt_some' rfl rfl rfl rfl (by first | rfl | assumption | exact dT (by omega) | exact dF (by omega))) (st_acall T0 (with_p cp b t hv h1 h2 h3) rfl rfl rfl rfl (by first | exact callee_lit | exact callee_v | exact callee_fn) (by solve | repeat' constructor) rfl rfl (by first | ((repeat' (first | exact SubH.refl _ | apply SubH.cons | exact Pick.here | apply Pick.there)); all_goals fail) | fail) (fun _ _ => trivial) ?_)
  rintro r h (⟨hb, rfl, rfl⟩ | ⟨hb, g, gm, rfl, rfl⟩)
  · repeat (first | refine awp_seq ?_ | refine awp_region_lit rfl ?_ | refine then_n ?_ | refine awp_cond_t rfl (by first | rfl | assumption | exact dT (by omega)) ?_ | ((first | (show AWL _ _ _ (⟨_, .move _, _, _, _, _⟩ :: _) _ _ _; refine awl_pw ?w (pv_move rfl rfl) rfl rfl ?_) | (show AWL _ _ _ (⟨_, .assign _, _, _, _, _⟩ :: _) _ _ _; refine awl_pw ?w (pv_assign rfl rfl) rfl rfl ?_) | (show AWL _ _ _ (⟨_, .load _ _, _, _, _, _⟩ :: _) _ _ _; refine awl_lw ?w (lv_cla T0 rfl rfl rfl (by solve | repeat' constructor) rfl) rfl rfl rfl ?_) | (show AWL _ _ _ (⟨_, .unOp .not _ _, _, _, _, _⟩ :: _) _ _ _; refine awl_pw ?w (pv_not rfl rfl) rfl rfl ?_) | (show AWL _ _ _ (⟨_, .extract _ _, _, _, _, _⟩ :: _) _ _ _; refine awl_pw ?w (pv_extract rfl rfl rfl) rfl rfl ?_) | (show AWL _ _ _ (⟨_, .pick _ _ _, _, _, _, _⟩ :: _) _ _ _; refine awl_pw ?w (pv_pick_t rfl rfl (by first | rfl | assumption | exact dT (by omega) | exact dF (by omega)) rfl) rfl rfl ?_)); case w => first | exact wt_none rfl | exact wt_some' rfl rfl rfl rfl (by first | rfl | assumption | exact dT (by omega) | exact dF (by omega))) | refine awl_sk (wf_some rfl rfl rfl rfl (by first | rfl | assumption | exact dT (by omega) | exact dF (by omega))) rfl rfl ?_ | refine awl_nil ?_)
    refine awp_tree T0 [(0, 1), (1, 1), (2, 2), (3, 3), (4, 0)] (.op 0 1 (.op 1 1 (.op 2 2 (.op 3 3 (.op 4 0 .stop))))) _ rfl (by kernel_rfl) (SubH.refl _) ?_
    refine awt_lo rfl (wt_none rfl) (lv_cla T0 rfl rfl rfl (by solve | repeat' constructor) rfl) rfl rfl rfl ?_
    refine awt_lo rfl (wt_none rfl) (lv_cla T0 rfl rfl rfl (by solve | repeat' constructor) rfl) rfl rfl rfl ?_
    refine awt_h (hm := []) rfl (wt_none rfl) (by solve | repeat' constructor) rfl (st_same T0 rfl rfl rfl rfl rfl (by simp only [cellsA]; rfl) rfl rfl rfl (by solve | repeat' constructor) rfl ?_)
    refine awt_s (md := fun _ => True) rfl (wt_none rfl) (st_store T0 rfl rfl rfl rfl rfl (by simp only [cellsA]; rfl) rfl rfl rfl (by solve | repeat' constructor) (by solve | repeat' constructor) trivial ?_)
    refine awe_p rfl (wt_none rfl) (pv_assign rfl rfl) rfl rfl ?_
    refine awe_end ?_
    repeat (first | refine awp_ret ?_ | refine then_r ?_)
    refine body_p (.cons ⟨g6, _, _, _, _, rfl, rfl, (by solve | repeat' constructor), by simp, .inl rfl, rfl⟩ (.cons ⟨g7, _, _, _, _, rfl, rfl, (by solve | repeat' constructor), by simp, .inl rfl, rfl⟩ (.cons rfl .nil))) ?_
    simp only [calledA, ne_eq, hf, not_true_eq_false, if_false, hb,  true_or, or_true, if_true]
    rfl
  simp only [workH, List.cons_append, List.nil_append]
  repeat (first | refine awp_seq ?_ | refine awp_region_lit rfl ?_ | ((first | (show AWL _ _ _ (⟨_, .move _, _, _, _, _⟩ :: _) _ _ _; refine awl_pw ?w (pv_move rfl rfl) rfl rfl ?_) | (show AWL _ _ _ (⟨_, .assign _, _, _, _, _⟩ :: _) _ _ _; refine awl_pw ?w (pv_assign rfl rfl) rfl rfl ?_) | (show AWL _ _ _ (⟨_, .load _ _, _, _, _, _⟩ :: _) _ _ _; refine awl_lw ?w (lv_cla T0 rfl rfl rfl (by solve | repeat' constructor) rfl) rfl rfl rfl ?_) | (show AWL _ _ _ (⟨_, .unOp .not _ _, _, _, _, _⟩ :: _) _ _ _; refine awl_pw ?w (pv_not rfl rfl) rfl rfl ?_) | (show AWL _ _ _ (⟨_, .extract _ _, _, _, _, _⟩ :: _) _ _ _; refine awl_pw ?w (pv_extract rfl rfl rfl) rfl rfl ?_)); case w => first | exact wt_none rfl | exact wt_some' rfl rfl rfl rfl (by first | rfl | assumption | exact dT (by omega) | exact dF (by omega))) | refine awl_nil ?_)
  cases hsp : spotB b.loans.length b.days.length loan day
  · refine awl_hw (by first | exact wt_none rfl | exact wt_some' rfl rfl rfl rfl (by first | rfl | assumption | exact dT (by omega) | exact dF (by omega))) (st_call T0 (spot_v cp b loan day hS hsp) rfl rfl rfl rfl (by first | exact callee_lit | exact callee_v | exact callee_fn) (by solve | repeat' constructor) rfl rfl ?_)
    rintro _ rfl
    repeat (first | refine awp_seq ?_ | refine then_n ?_ | refine awp_cond_t rfl (by first | rfl | assumption | exact dT (by omega)) ?_ | ((first | (show AWL _ _ _ (⟨_, .unOp .not _ _, _, _, _, _⟩ :: _) _ _ _; refine awl_pw ?w (pv_not rfl rfl) rfl rfl ?_) | (show AWL _ _ _ (⟨_, .pick _ _ _, _, _, _, _⟩ :: _) _ _ _; refine awl_pw ?w (pv_pick_f rfl rfl (by first | rfl | assumption | exact dT (by omega) | exact dF (by omega)) rfl) rfl rfl ?_)); case w => first | exact wt_none rfl | exact wt_some' rfl rfl rfl rfl (by first | rfl | assumption | exact dT (by omega) | exact dF (by omega))) | refine awl_nil ?_)
    refine awp_tree T0 [(0, 1), (1, 1), (2, 2), (3, 3), (4, 0)] (.op 0 1 (.op 1 1 (.op 2 2 (.op 3 3 (.op 4 0 .stop))))) _ rfl (by kernel_rfl) (SubH.refl _) ?_
    refine awt_lo rfl (wt_none rfl) (lv_cla T0 rfl rfl rfl (by solve | repeat' constructor) rfl) rfl rfl rfl ?_
    refine awt_lo rfl (wt_none rfl) (lv_cla T0 rfl rfl rfl (by solve | repeat' constructor) rfl) rfl rfl rfl ?_
    refine awt_h (hm := []) rfl (wt_none rfl) (by solve | repeat' constructor) rfl (st_same T0 rfl rfl rfl rfl rfl (by simp only [cellsA]; rfl) rfl rfl rfl (by solve | repeat' constructor) rfl ?_)
    refine awt_s (md := fun _ => True) rfl (wt_none rfl) (st_store T0 rfl rfl rfl rfl rfl (by simp only [cellsA]; rfl) rfl rfl rfl (by solve | repeat' constructor) (by solve | repeat' constructor) trivial ?_)
    refine awe_p rfl (wt_none rfl) (pv_assign rfl rfl) rfl rfl ?_
    refine awe_end ?_
    repeat (first | refine awp_ret ?_ | refine then_r ?_)
    refine body_p (.cons ⟨g6, _, _, _, _, rfl, rfl, (by solve | repeat' constructor), by simp, .inl rfl, rfl⟩ (.cons ⟨g7, _, _, _, _, rfl, rfl, (by solve | repeat' constructor), by simp, .inl rfl, rfl⟩ (.cons rfl .nil))) ?_
    simp only [calledA, ne_eq, hf, not_true_eq_false, if_false, hb, hsp, true_or, or_true, if_true]
    rfl
  refine awl_hw (by first | exact wt_none rfl | exact wt_some' rfl rfl rfl rfl (by first | rfl | assumption | exact dT (by omega) | exact dF (by omega))) (st_call T0 (spot_v cp b loan day hS hsp) rfl rfl rfl rfl (by first | exact callee_lit | exact callee_v | exact callee_fn) (by solve | repeat' constructor) rfl rfl ?_)
  rintro _ rfl
  repeat (first | refine awp_seq ?_ | refine awp_region_lit rfl ?_ | refine awp_skip ?_ | refine then_n ?_ | refine awp_cond_f rfl (by first | rfl | assumption | exact dF (by omega)) ?_ | ((first | (show AWL _ _ _ (⟨_, .move _, _, _, _, _⟩ :: _) _ _ _; refine awl_pw ?w (pv_move rfl rfl) rfl rfl ?_) | (show AWL _ _ _ (⟨_, .load _ _, _, _, _, _⟩ :: _) _ _ _; refine awl_lw ?w (lv_cla T0 rfl rfl rfl (by solve | repeat' constructor) rfl) rfl rfl rfl ?_) | (show AWL _ _ _ (⟨_, .unOp .not _ _, _, _, _, _⟩ :: _) _ _ _; refine awl_pw ?w (pv_not rfl rfl) rfl rfl ?_) | (show AWL _ _ _ (⟨_, .pick _ _ _, _, _, _, _⟩ :: _) _ _ _; refine awl_pw ?w (pv_pick_f rfl rfl (by first | rfl | assumption | exact dT (by omega) | exact dF (by omega)) rfl) rfl rfl ?_)); case w => first | exact wt_none rfl | exact wt_some' rfl rfl rfl rfl (by first | rfl | assumption | exact dT (by omega) | exact dF (by omega))) | refine awl_nil ?_)
  have hsp2 : (0 ≤ loan ∧ loan ≤ (b.loans.length : Int) - 1) ∧ (0 ≤ day ∧ day ≤ (b.days.length : Int) - 1) := by simpa [spotB, inB] using hsp
  obtain ⟨i, rfl⟩ : ∃ i : Nat, loan = i := ⟨loan.toNat, by omega⟩
  obtain ⟨n, rfl⟩ : ∃ n : Nat, day = n := ⟨day.toNat, by omega⟩
  obtain ⟨l1, l2⟩ := truthB_len hb
  have hT := truth_small hv hb
  have hL := hv.loan i (by omega)
  have hst := hv.st
  have hd4 := hv.days
  have hl4 := hv.loans
  refine awl_hw (by first | exact wt_none rfl | exact wt_some' rfl rfl rfl rfl (by first | rfl | assumption | exact dT (by omega) | exact dF (by omega))) (st_acall T0 (state_p g gm cp b t.prices t.rates i (by omega) (by omega) h1 h2 hL.1 hT (truth_rows hv hb (by omega)) (by omega) n (by omega) (by omega) (by omega) [] KnownL.nil) rfl rfl rfl rfl (by first | exact callee_lit | exact callee_v | exact callee_fn) (by solve | repeat' constructor) rfl rfl (by first | ((repeat' (first | exact SubH.refl _ | apply SubH.cons | exact Pick.here | apply Pick.there)); all_goals fail) | fail) (fun _ _ => trivial) ?_)
  rintro r h ⟨rfl, l', hl', rfl⟩
  simp only [workH, List.cons_append, List.nil_append]
  repeat (first | refine awp_seq ?_ | refine awp_region_lit rfl ?_ | refine then_n ?_ | ((first | (show AWL _ _ _ (⟨_, .load _ _, _, _, _, _⟩ :: _) _ _ _; refine awl_lw ?w (lv_cl1 T0 rfl rfl rfl (by solve | repeat' constructor) (by first | rfl | assumption)) rfl rfl rfl ?_) | (show AWL _ _ _ (⟨_, .fieldAddr _ _ _, _, _, _, _⟩ :: _) _ _ _; refine awl_pw ?w (pv_fa T0 rfl rfl rfl (by simp; rfl)) rfl rfl ?_) | (show AWL _ _ _ (⟨_, .binOp .eql _ _ _ _, _, _, _, _⟩ :: _) _ _ _; refine awl_pw ?w (pv_eql rfl rfl rfl) rfl rfl ?_)); case w => first | exact wt_none rfl | exact wt_some' rfl rfl rfl rfl (by first | rfl | assumption | exact dT (by omega) | exact dF (by omega))) | (show AWL _ _ _ (⟨_, .store _ _ _, _, _, _, _⟩ :: _) _ _ _; refine awl_hw (by first | exact wt_none rfl | exact wt_some' rfl rfl rfl rfl (by first | rfl | assumption | exact dT (by omega) | exact dF (by omega))) (st_store T0 rfl rfl rfl rfl rfl (by simp only [cellsA]; rfl) rfl rfl rfl (by solve | repeat' constructor) (by solve | repeat' constructor) trivial ?_)) | refine awl_nil ?_)
  by_cases hc : (allSt b.loans t.prices t.rates i n).call = 0
  · repeat (first | refine awp_seq ?_ | refine awp_cond_t rfl (by first | rfl | assumption | exact dT (by omega)) ?_)
    refine awp_tree T0 [(0, 1), (1, 1), (2, 2), (3, 3), (4, 0)] (.op 0 1 (.op 1 1 (.op 2 2 (.op 3 3 (.op 4 0 .stop))))) _ rfl (by kernel_rfl) (SubH.refl _) ?_
    refine awt_lo rfl (wt_none rfl) (lv_cla T0 rfl rfl rfl (by solve | repeat' constructor) rfl) rfl rfl rfl ?_
    refine awt_lo rfl (wt_none rfl) (lv_cla T0 rfl rfl rfl (by solve | repeat' constructor) rfl) rfl rfl rfl ?_
    refine awt_h (hm := []) rfl (wt_none rfl) (by solve | repeat' constructor) rfl (st_same T0 rfl rfl rfl rfl rfl (by simp only [cellsA]; rfl) rfl rfl rfl (by solve | repeat' constructor) rfl ?_)
    refine awt_s (md := fun _ => True) rfl (wt_none rfl) (st_store T0 rfl rfl rfl rfl rfl (by simp only [cellsA]; rfl) rfl rfl rfl (by solve | repeat' constructor) (by solve | repeat' constructor) trivial ?_)
    refine awe_p rfl (wt_none rfl) (pv_assign rfl rfl) rfl rfl ?_
    refine awe_end ?_
    repeat (first | refine awp_ret ?_ | refine then_r ?_)
    refine body_p (.cons ⟨g6, _, _, _, _, rfl, rfl, (by solve | repeat' constructor), by simp, .inl rfl, rfl⟩ (.cons ⟨g7, _, _, _, _, rfl, rfl, (by solve | repeat' constructor), by simp, .inl rfl, rfl⟩ (.cons rfl .nil))) ?_
    have e : calledA b t i n = .tup [stA (allSt b.loans t.prices t.rates i n), zarrA, intA 7] := by
      simp only [calledA, ne_eq, hf, not_true_eq_false, if_false, hb, hsp, Bool.true_eq_false, or_self, Int.toNat_natCast, hc, if_true]
    rw [e]
    rfl
  · repeat (first | refine awp_seq ?_ | refine awp_skip ?_ | refine awp_cond_f rfl (by first | rfl | assumption | exact dF (by omega)) ?_)
    refine awp_tree T0 [(0, 1), (1, 0), (2, 0), (3, 0), (4, 1), (5, 0), (6, 1), (7, 0), (8, 1), (9, 2), (10, 3), (11, 0)] (.op 0 1 (.op 1 0 (.op 2 0 (.op 3 0 (.op 4 1 (.op 5 0 (.op 6 1 (.op 7 0 (.op 8 1 (.op 9 2 (.op 10 3 (.op 11 0 .stop)))))))))))) _ rfl (by kernel_rfl) (SubH.refl _) ?_
    refine awt_lo rfl (wt_none rfl) (lv_cla T0 rfl rfl rfl (by solve | repeat' constructor) rfl) rfl rfl rfl ?_
    refine awt_po rfl (wt_none rfl) (pv_move rfl rfl) rfl rfl ?_
    refine awt_po rfl (wt_none rfl) (pv_nilCheck rfl rfl) rfl rfl ?_
    refine awt_po rfl (wt_none rfl) (pv_fa T0 rfl rfl rfl (by simp; rfl)) rfl rfl ?_
    refine awt_lo rfl (wt_none rfl) (lv_cl1 T0 rfl rfl rfl (by solve | repeat' constructor) (by first | rfl | assumption)) rfl rfl rfl ?_
    refine awt_po rfl (wt_none rfl) (pv_fa T0 rfl rfl rfl (by simp; rfl)) rfl rfl ?_
    refine awt_lo rfl (wt_none rfl) (lv_cl1 T0 rfl rfl rfl (by solve | repeat' constructor) (by first | rfl | assumption)) rfl rfl rfl ?_
    refine awt_po rfl (wt_none rfl) (pv_ix_t T0 rfl rfl rfl rfl (by omega) (by first | exact Int.toNat_natCast _ | rfl)) rfl rfl ?_
    refine awt_lo rfl (wt_none rfl) (lv_elt_ag T0 rfl rfl rfl rfl (by solve | repeat' constructor)) rfl rfl rfl ?_
    refine awt_h (hm := []) rfl (wt_none rfl) (by solve | repeat' constructor) rfl (st_same T0 rfl rfl rfl rfl rfl (by simp only [cellsA]; rfl) rfl rfl rfl (by solve | repeat' constructor) rfl ?_)
    refine awt_s (md := fun _ => True) rfl (wt_none rfl) (st_store T0 rfl rfl rfl rfl rfl (by simp only [cellsA]; rfl) rfl rfl rfl (by solve | repeat' constructor) (by solve | repeat' constructor) trivial ?_)
    refine awe_p rfl (wt_none rfl) (pv_assign rfl rfl) rfl rfl ?_
    refine awe_end ?_
    repeat (first | refine awp_ret ?_)
    refine body_p (.cons ⟨g6, _, _, _, _, rfl, rfl, (by solve | repeat' constructor), by simp, .inl rfl, rfl⟩ (.cons ⟨g7, _, _, _, _, rfl, rfl, (by solve | repeat' constructor), by simp, .inl rfl, rfl⟩ (.cons rfl .nil))) ?_
    simp only [calledA, ne_eq, hf, not_true_eq_false, if_false, hb, hsp, Bool.true_eq_false, or_self, Int.toNat_natCast, hc]
    rfl
end Go.Proofs.Ytfiacjdkdjkiiaa
