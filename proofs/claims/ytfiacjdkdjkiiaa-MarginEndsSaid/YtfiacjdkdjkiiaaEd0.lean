/- The law MarginEnds: its drawn regions. -/
import Derived.Test.YtfiacjdkdjkiiaaEn
import Derived.Test.YtfiacjdkdjkiiaaGMa
import Derived.Test.YtfiacjdkdjkiiaaMc
import Derived.Test.YtfiacjdkdjkiiaaGPv
namespace Go.Proofs.Ytfiacjdkdjkiiaa
open Go Go.RowKit Go.Tl
set_option linter.unusedVariables false
set_option linter.unusedSimpArgs false
set_option maxRecDepth 100000
set_option maxHeartbeats 2000000
attribute [local irreducible] AWP AWL AOp PV LV AWT AWE
theorem truth_y {b : BankD} {t : TruthD} (hv : Valid b) (h : truthB b t = true) : PCall Try.prog 21 [truthA t] (fun r => r = truthA t) := by
  obtain ⟨l1, l2⟩ := truthB_len h
  have hd := hv.days
  have hs := hv.st
  exact truth_p t (by omega) (by omega) (fun k hk => by have := (truthB_day h (k := k) (by omega)).1; omega)
abbrev edS (g3 i n k : Nat) (X Y T : List Rng) (hi : Bool) : Slots := [(3, .v (.pointer (some ⟨g3, 0, none⟩))), (7, intA i), (8, intA n), (9, .t (rngsT false X)), (10, .t (rngsT false Y)), (12, .t (rngsT false T)), (14, intA k), (15, boolA hi)]
abbrev edH (g3 : Nat) (b : BankD) : List Ent := [.cl g3 25 [intA b.stocks, .t (daysT false b.days), .t (loansT false b.loans)]]
section
variable {b : BankD} {X Y T : List Rng} {g3 i n k : Nat} {hi : Bool} {D C E : List (List Int)}
theorem ed_3 {x y : Int} (h0 : 0 ≤ x ∧ x ≤ 255) (h1 : 0 ≤ y ∧ y ≤ 255) (k0 : (b.loans.length : Int) ≠ 0) (k1 : (b.days.length : Int) ≠ 0) (e1 : x.tmod b.loans.length = i) (e2 : y.tmod b.days.length = n) {ops : Array Oper} (h : regF Try.f8 3 = some ops) :
    AWP Try.prog Try.f8.ntmps none (.region 3 ops true) (cutQ (fun s h => s = [(3, .v (.pointer (some ⟨g3, 0, none⟩))), (7, intA i), (8, intA n)] ∧ h = edH g3 b)) [(1, .v (.int .u8 x)), (2, .v (.int .u8 y)), (3, .v (.pointer (some ⟨g3, 0, none⟩)))] (edH g3 b) := by
  cases h
  refine awp_tree T0 [(0, 0), (1, 0), (2, 0), (3, 1), (4, 0), (5, 0), (6, 0), (7, 0), (8, 0), (9, 1), (10, 0), (11, 0), (12, 0), (13, 0)] (.op 0 0 (.op 1 0 (.op 2 0 (.op 3 1 (.op 4 0 (.op 5 0 (.op 6 0 (.op 7 0 (.op 8 0 (.op 9 1 (.op 10 0 (.op 11 0 (.op 12 0 (.op 13 0 .stop)))))))))))))) _ rfl (by kernel_rfl) (SubH.refl _) ?_
  refine awt_po rfl (wt_none rfl) (pv_move rfl rfl) rfl rfl ?_
  refine awt_po rfl (wt_none rfl) (pv_convert rfl rfl Try.underlying5 Try.underlying3 (by first | assumption | exact wr64 (by omega))) rfl rfl ?_
  refine awt_po rfl (wt_none rfl) (pv_fa T0 rfl rfl rfl (by simp; rfl)) rfl rfl ?_
  refine awt_lo rfl (wt_none rfl) (lv_cl1 T0 rfl rfl rfl (by solve | repeat' constructor) (by first | rfl | assumption)) rfl rfl rfl ?_
  refine awt_po rfl (wt_none rfl) (pv_len_t T0 rfl rfl rfl) rfl rfl ?_
  refine awt_po rfl (wt_none rfl) (pv_rem rfl rfl rfl (by omega) (by first | assumption | rfl)) rfl rfl ?_
  refine awt_po rfl (wt_none rfl) (pv_move rfl rfl) rfl rfl ?_
  refine awt_po rfl (wt_none rfl) (pv_convert rfl rfl Try.underlying5 Try.underlying3 (by first | assumption | exact wr64 (by omega))) rfl rfl ?_
  refine awt_po rfl (wt_none rfl) (pv_fa T0 rfl rfl rfl (by simp; rfl)) rfl rfl ?_
  refine awt_lo rfl (wt_none rfl) (lv_cl1 T0 rfl rfl rfl (by solve | repeat' constructor) (by first | rfl | assumption)) rfl rfl rfl ?_
  refine awt_po rfl (wt_none rfl) (pv_len_t T0 rfl rfl rfl) rfl rfl ?_
  refine awt_po rfl (wt_none rfl) (pv_rem rfl rfl rfl (by omega) (by first | assumption | rfl)) rfl rfl ?_
  refine awt_po rfl (wt_none rfl) (pv_assign rfl rfl) rfl rfl ?_
  refine awt_po rfl (wt_none rfl) (pv_assign rfl rfl) rfl rfl ?_
  refine awt_end ?_
  exact cut_n ⟨rfl, rfl⟩ (by first | ((repeat' (first | exact True.intro | refine ⟨rfl, ?_⟩)); all_goals fail) | fail) (by solve | repeat' constructor)
theorem ed_12 (hv : Valid b) (hS : Short b) (hf : faultN b = 0) {ops : Array Oper} (h : regF Try.f8 12 = some ops) :
    AWP Try.prog Try.f8.ntmps none (.region 12 ops true) (cutQ (fun s h => s = edS g3 i n k X Y T hi ++ [(16, .t (rowsT false (debtsP b (endsD b hi hi n) b.loans.length))), (18, intA 0)] ∧ h = edH g3 b)) (edS g3 i n k X Y T hi) (edH g3 b) := by
  cases h
  simp only [List.cons_append, List.nil_append]
  refine awp_tree T0 [(0, 1), (2, 1), (3, 0), (4, 0), (5, 0), (1, 2), (6, 3), (7, 3), (8, 3), (9, 0), (10, 0), (11, 0), (12, 0), (13, 0), (14, 0), (15, 0)] (.op 0 1 (.op 2 1 (.op 3 0 (.op 4 0 (.op 5 0 (.op 1 2 (.op 6 3 (.op 7 3 (.op 8 3 (.op 9 0 (.op 10 0 (.op 11 0 (.op 12 0 (.op 13 0 (.op 14 0 (.op 15 0 .stop)))))))))))))))) _ rfl (by kernel_rfl) (SubH.refl _) ?_
  refine awt_lo rfl (wt_none rfl) (lv_cla T0 rfl rfl rfl (by solve | repeat' constructor) rfl) rfl rfl rfl ?_
  refine awt_lo rfl (wt_none rfl) (lv_cla T0 rfl rfl rfl (by solve | repeat' constructor) rfl) rfl rfl rfl ?_
  refine awt_po rfl (wt_none rfl) (pv_move rfl rfl) rfl rfl ?_
  refine awt_po rfl (wt_none rfl) (pv_move rfl rfl) rfl rfl ?_
  refine awt_po rfl (wt_none rfl) (pv_move rfl rfl) rfl rfl ?_
  refine awt_h (hm := []) rfl (wt_none rfl) (by solve | repeat' constructor) rfl (st_call T0 (bank_p true b hS) rfl rfl rfl rfl (by first | exact callee_lit | exact callee_v | exact callee_fn) (by solve | repeat' constructor) rfl rfl ?_)
  rintro _ rfl
  refine awt_s (md := fun _ => True) rfl (wt_none rfl) (st_call T0 (ends_p false b hi hi n hv) rfl rfl rfl rfl (by first | exact callee_lit | exact callee_v | exact callee_fn) (by solve | repeat' constructor) rfl rfl ?_)
  rintro _ rfl
  refine awe_s (md := fun _ => True) rfl (wt_none rfl) (st_call T0 (truth_y hv (ends_truth hv hi hi n)) rfl rfl rfl rfl (by first | exact callee_lit | exact callee_v | exact callee_fn) (by solve | repeat' constructor) rfl rfl ?_)
  rintro _ rfl
  refine awe_s (md := fun _ => True) rfl (wt_none rfl) (st_call T0 (play_w hS hf (ends_truth hv hi hi n)) rfl rfl rfl rfl (by first | exact callee_lit | exact callee_v | exact callee_fn) (by solve | repeat' constructor) rfl rfl ?_)
  rintro _ rfl
  refine awe_p rfl (wt_none rfl) (pv_move rfl rfl) rfl rfl ?_
  refine awe_p rfl (wt_none rfl) (pv_extract rfl rfl rfl) rfl rfl ?_
  refine awe_p rfl (wt_none rfl) (pv_extract rfl rfl rfl) rfl rfl ?_
  refine awe_p rfl (wt_none rfl) (pv_extract rfl rfl rfl) rfl rfl ?_
  refine awe_p rfl (wt_none rfl) (pv_assign rfl rfl) rfl rfl ?_
  refine awe_p rfl (wt_none rfl) (pv_assign rfl rfl) rfl rfl ?_
  refine awe_p rfl (wt_none rfl) (pv_assign rfl rfl) rfl rfl ?_
  refine awe_end ?_
  exact cut_n ⟨rfl, rfl⟩ (by first | ((repeat' (first | exact True.intro | refine ⟨rfl, ?_⟩)); all_goals fail) | fail) (by solve | repeat' constructor)
theorem ed_13 (hv : Valid b) (hS : Short b) (hf : faultN b = 0) {ops : Array Oper} (h : regF Try.f8 13 = some ops) :
    AWP Try.prog Try.f8.ntmps none (.region 13 ops true) (cutQ (fun s h => s = edS g3 i n k X Y T hi ++ [(16, .t (rowsT false D)), (18, intA 0), (20, .t (rowsT false (callsP b (endsD b hi (!hi) n) b.loans.length))), (21, intA 0)] ∧ h = edH g3 b)) (edS g3 i n k X Y T hi ++ [(16, .t (rowsT false D)), (18, intA 0)]) (edH g3 b) := by
  cases h
  simp only [List.cons_append, List.nil_append]
  refine awp_tree T0 [(0, 1), (2, 1), (3, 0), (4, 0), (5, 0), (6, 0), (1, 2), (7, 3), (8, 3), (9, 3), (10, 0), (11, 0), (12, 0), (13, 0), (14, 0), (15, 0), (16, 0)] (.op 0 1 (.op 2 1 (.op 3 0 (.op 4 0 (.op 5 0 (.op 6 0 (.op 1 2 (.op 7 3 (.op 8 3 (.op 9 3 (.op 10 0 (.op 11 0 (.op 12 0 (.op 13 0 (.op 14 0 (.op 15 0 (.op 16 0 .stop))))))))))))))))) _ rfl (by kernel_rfl) (SubH.refl _) ?_
  refine awt_lo rfl (wt_none rfl) (lv_cla T0 rfl rfl rfl (by solve | repeat' constructor) rfl) rfl rfl rfl ?_
  refine awt_lo rfl (wt_none rfl) (lv_cla T0 rfl rfl rfl (by solve | repeat' constructor) rfl) rfl rfl rfl ?_
  refine awt_po rfl (wt_none rfl) (pv_move rfl rfl) rfl rfl ?_
  refine awt_po rfl (wt_none rfl) (pv_move rfl rfl) rfl rfl ?_
  refine awt_po rfl (wt_none rfl) (pv_not rfl rfl) rfl rfl ?_
  refine awt_po rfl (wt_none rfl) (pv_move rfl rfl) rfl rfl ?_
  refine awt_h (hm := []) rfl (wt_none rfl) (by solve | repeat' constructor) rfl (st_call T0 (bank_p true b hS) rfl rfl rfl rfl (by first | exact callee_lit | exact callee_v | exact callee_fn) (by solve | repeat' constructor) rfl rfl ?_)
  rintro _ rfl
  refine awt_s (md := fun _ => True) rfl (wt_none rfl) (st_call T0 (ends_p false b hi (!hi) n hv) rfl rfl rfl rfl (by first | exact callee_lit | exact callee_v | exact callee_fn) (by solve | repeat' constructor) rfl rfl ?_)
  rintro _ rfl
  refine awe_s (md := fun _ => True) rfl (wt_none rfl) (st_call T0 (truth_y hv (ends_truth hv hi (!hi) n)) rfl rfl rfl rfl (by first | exact callee_lit | exact callee_v | exact callee_fn) (by solve | repeat' constructor) rfl rfl ?_)
  rintro _ rfl
  refine awe_s (md := fun _ => True) rfl (wt_none rfl) (st_call T0 (play_w hS hf (ends_truth hv hi (!hi) n)) rfl rfl rfl rfl (by first | exact callee_lit | exact callee_v | exact callee_fn) (by solve | repeat' constructor) rfl rfl ?_)
  rintro _ rfl
  refine awe_p rfl (wt_none rfl) (pv_move rfl rfl) rfl rfl ?_
  refine awe_p rfl (wt_none rfl) (pv_extract rfl rfl rfl) rfl rfl ?_
  refine awe_p rfl (wt_none rfl) (pv_extract rfl rfl rfl) rfl rfl ?_
  refine awe_p rfl (wt_none rfl) (pv_extract rfl rfl rfl) rfl rfl ?_
  refine awe_p rfl (wt_none rfl) (pv_assign rfl rfl) rfl rfl ?_
  refine awe_p rfl (wt_none rfl) (pv_assign rfl rfl) rfl rfl ?_
  refine awe_p rfl (wt_none rfl) (pv_assign rfl rfl) rfl rfl ?_
  refine awe_end ?_
  exact cut_n ⟨rfl, rfl⟩ (by first | ((repeat' (first | exact True.intro | refine ⟨rfl, ?_⟩)); all_goals fail) | fail) (by solve | repeat' constructor)
theorem ed_16 {x y t : Int} (k1 : n < X.length) (k2 : n < Y.length) (k3 : n < T.length) (e1 : (X.getD n default).lo = x) (e2 : (Y.getD n default).lo = y) (e3 : (T.getD n default).lo = t) {ops : Array Oper} (h : regF Try.f8 16 = some ops) :
    AWP Try.prog Try.f8.ntmps none (.region 16 ops true) (cutQ (fun s h => s = edS g3 i n k X Y T hi ++ [(16, .t (rowsT false D)), (20, .t (rowsT false C)), (22, intA x), (23, intA y), (24, intA t)] ∧ h = edH g3 b)) (edS g3 i n k X Y T hi ++ [(16, .t (rowsT false D)), (20, .t (rowsT false C))]) (edH g3 b) := by
  cases h
  simp only [List.cons_append, List.nil_append]
  refine awp_tree T0 [(0, 0), (1, 0), (2, 0), (3, 0), (4, 1), (5, 0), (6, 0), (7, 0), (8, 0), (9, 1), (10, 0), (11, 0), (12, 0), (13, 0), (14, 1), (15, 0), (16, 0), (17, 0)] (.op 0 0 (.op 1 0 (.op 2 0 (.op 3 0 (.op 4 1 (.op 5 0 (.op 6 0 (.op 7 0 (.op 8 0 (.op 9 1 (.op 10 0 (.op 11 0 (.op 12 0 (.op 13 0 (.op 14 1 (.op 15 0 (.op 16 0 (.op 17 0 .stop)))))))))))))))))) _ rfl (by kernel_rfl) (SubH.refl _) ?_
  refine awt_po rfl (wt_none rfl) (pv_move rfl rfl) rfl rfl ?_
  refine awt_po rfl (wt_none rfl) (pv_move rfl rfl) rfl rfl ?_
  refine awt_po rfl (wt_none rfl) (pv_ix_t T0 rfl rfl rfl rfl (by omega) (by first | exact Int.toNat_natCast _ | rfl)) rfl rfl ?_
  refine awt_po rfl (wt_none rfl) (pv_fa_elt T0 rfl rfl rfl (by simp; rfl)) rfl rfl ?_
  refine awt_lo rfl (wt_none rfl) (lv_elt_sc T0 rfl rfl rfl rfl) rfl rfl rfl ?_
  refine awt_po rfl (wt_none rfl) (pv_move rfl rfl) rfl rfl ?_
  refine awt_po rfl (wt_none rfl) (pv_move rfl rfl) rfl rfl ?_
  refine awt_po rfl (wt_none rfl) (pv_ix_t T0 rfl rfl rfl rfl (by omega) (by first | exact Int.toNat_natCast _ | rfl)) rfl rfl ?_
  refine awt_po rfl (wt_none rfl) (pv_fa_elt T0 rfl rfl rfl (by simp; rfl)) rfl rfl ?_
  refine awt_lo rfl (wt_none rfl) (lv_elt_sc T0 rfl rfl rfl rfl) rfl rfl rfl ?_
  refine awt_po rfl (wt_none rfl) (pv_move rfl rfl) rfl rfl ?_
  refine awt_po rfl (wt_none rfl) (pv_move rfl rfl) rfl rfl ?_
  refine awt_po rfl (wt_none rfl) (pv_ix_t T0 rfl rfl rfl rfl (by omega) (by first | exact Int.toNat_natCast _ | rfl)) rfl rfl ?_
  refine awt_po rfl (wt_none rfl) (pv_fa_elt T0 rfl rfl rfl (by simp; rfl)) rfl rfl ?_
  refine awt_lo rfl (wt_none rfl) (lv_elt_sc T0 rfl rfl rfl rfl) rfl rfl rfl ?_
  refine awt_po rfl (wt_none rfl) (pv_assign rfl rfl) rfl rfl ?_
  refine awt_po rfl (wt_none rfl) (pv_assign rfl rfl) rfl rfl ?_
  refine awt_po rfl (wt_none rfl) (pv_assign rfl rfl) rfl rfl ?_
  refine awt_end ?_
  rw [e1, e2, e3]
  exact cut_n ⟨rfl, rfl⟩ (by first | ((repeat' (first | exact True.intro | refine ⟨rfl, ?_⟩)); all_goals fail) | fail) (by solve | repeat' constructor)
theorem ed_18 {x y t : Int} (k1 : n < X.length) (k2 : n < Y.length) (k3 : n < T.length) (e1 : (X.getD n default).hi = x) (e2 : (Y.getD n default).hi = y) (e3 : (T.getD n default).hi = t) {ops : Array Oper} (h : regF Try.f8 18 = some ops) :
    AWP Try.prog Try.f8.ntmps none (.region 18 ops true) (cutQ (fun s h => s = edS g3 i n k X Y T hi ++ [(16, .t (rowsT false D)), (20, .t (rowsT false C)), (22, intA x), (23, intA y), (24, intA t)] ∧ h = edH g3 b)) (edS g3 i n k X Y T hi ++ [(16, .t (rowsT false D)), (20, .t (rowsT false C))]) (edH g3 b) := by
  cases h
  simp only [List.cons_append, List.nil_append]
  refine awp_tree T0 [(0, 0), (1, 0), (2, 0), (3, 0), (4, 1), (5, 0), (6, 0), (7, 0), (8, 0), (9, 1), (10, 0), (11, 0), (12, 0), (13, 0), (14, 1), (15, 0), (16, 0), (17, 0)] (.op 0 0 (.op 1 0 (.op 2 0 (.op 3 0 (.op 4 1 (.op 5 0 (.op 6 0 (.op 7 0 (.op 8 0 (.op 9 1 (.op 10 0 (.op 11 0 (.op 12 0 (.op 13 0 (.op 14 1 (.op 15 0 (.op 16 0 (.op 17 0 .stop)))))))))))))))))) _ rfl (by kernel_rfl) (SubH.refl _) ?_
  refine awt_po rfl (wt_none rfl) (pv_move rfl rfl) rfl rfl ?_
  refine awt_po rfl (wt_none rfl) (pv_move rfl rfl) rfl rfl ?_
  refine awt_po rfl (wt_none rfl) (pv_ix_t T0 rfl rfl rfl rfl (by omega) (by first | exact Int.toNat_natCast _ | rfl)) rfl rfl ?_
  refine awt_po rfl (wt_none rfl) (pv_fa_elt T0 rfl rfl rfl (by simp; rfl)) rfl rfl ?_
  refine awt_lo rfl (wt_none rfl) (lv_elt_sc T0 rfl rfl rfl rfl) rfl rfl rfl ?_
  refine awt_po rfl (wt_none rfl) (pv_move rfl rfl) rfl rfl ?_
  refine awt_po rfl (wt_none rfl) (pv_move rfl rfl) rfl rfl ?_
  refine awt_po rfl (wt_none rfl) (pv_ix_t T0 rfl rfl rfl rfl (by omega) (by first | exact Int.toNat_natCast _ | rfl)) rfl rfl ?_
  refine awt_po rfl (wt_none rfl) (pv_fa_elt T0 rfl rfl rfl (by simp; rfl)) rfl rfl ?_
  refine awt_lo rfl (wt_none rfl) (lv_elt_sc T0 rfl rfl rfl rfl) rfl rfl rfl ?_
  refine awt_po rfl (wt_none rfl) (pv_move rfl rfl) rfl rfl ?_
  refine awt_po rfl (wt_none rfl) (pv_move rfl rfl) rfl rfl ?_
  refine awt_po rfl (wt_none rfl) (pv_ix_t T0 rfl rfl rfl rfl (by omega) (by first | exact Int.toNat_natCast _ | rfl)) rfl rfl ?_
  refine awt_po rfl (wt_none rfl) (pv_fa_elt T0 rfl rfl rfl (by simp; rfl)) rfl rfl ?_
  refine awt_lo rfl (wt_none rfl) (lv_elt_sc T0 rfl rfl rfl rfl) rfl rfl rfl ?_
  refine awt_po rfl (wt_none rfl) (pv_assign rfl rfl) rfl rfl ?_
  refine awt_po rfl (wt_none rfl) (pv_assign rfl rfl) rfl rfl ?_
  refine awt_po rfl (wt_none rfl) (pv_assign rfl rfl) rfl rfl ?_
  refine awt_end ?_
  rw [e1, e2, e3]
  exact cut_n ⟨rfl, rfl⟩ (by first | ((repeat' (first | exact True.intro | refine ⟨rfl, ?_⟩)); all_goals fail) | fail) (by solve | repeat' constructor)
theorem ed_23 {x y t z : Int} {m : Nat} (k1 : m < C.length) (k2 : m < D.length) (e1 : decide (((C.getD m []).length : Int) ≠ (b.days.length : Int)) = false) (e2 : decide (((D.getD m []).length : Int) ≠ (b.days.length : Int)) = false) {ops : Array Oper} (h : regF Try.f8 23 = some ops) :
    AWP Try.prog Try.f8.ntmps none (.region 23 ops true) (cutQ (fun s h => s = edS g3 i n k X Y T hi ++ [(16, .t (rowsT false D)), (20, .t (rowsT false C)), (22, intA x), (23, intA y), (24, intA t), (25, intA z), (26, intA m), (204, boolA false)] ∧ h = edH g3 b))
      (edS g3 i n k X Y T hi ++ [(16, .t (rowsT false D)), (20, .t (rowsT false C)), (22, intA x), (23, intA y), (24, intA t), (25, intA z), (26, intA m)]) (edH g3 b) := by
  cases h
  simp only [List.cons_append, List.nil_append]
  refine awp_treeN T0 [(0, 0), (1, 0), (2, 0), (3, 1), (4, 0), (5, 0), (6, 1), (7, 0), (8, 0), (9, 0), (10, 0), (11, 0), (12, 0), (13, 1), (14, 0), (15, 0), (16, 1), (17, 0), (18, 0), (19, 0)] (.op 0 0 (.op 1 0 (.op 2 0 (.op 3 1 (.op 4 0 (.op 5 0 (.op 6 1 (.op 7 0 (.op 8 0 (.op 9 0 (.op 10 0 (.op 11 0 (.op 12 0 (.op 13 1 (.op 14 0 (.op 15 0 (.op 16 1 (.op 17 0 (.op 18 0 (.op 19 0 .stop)))))))))))))))))))) _ rfl (by kernel_rfl) (SubH.refl _) ?_
  refine awt_po rfl (wt_none rfl) (pv_move rfl rfl) rfl rfl ?_
  refine awt_po rfl (wt_none rfl) (pv_move rfl rfl) rfl rfl ?_
  refine awt_po rfl (wt_none rfl) (pv_ix_t T0 rfl rfl rfl rfl (by omega) (by first | exact Int.toNat_natCast _ | rfl)) rfl rfl ?_
  refine awt_lo rfl (wt_none rfl) (lv_elt_sl T0 rfl rfl rfl rfl) rfl rfl rfl ?_
  refine awt_po rfl (wt_none rfl) (pv_len_t T0 rfl rfl rfl) rfl rfl ?_
  refine awt_po rfl (wt_none rfl) (pv_fa T0 rfl rfl rfl (by simp; rfl)) rfl rfl ?_
  refine awt_lo rfl (wt_none rfl) (lv_cl1 T0 rfl rfl rfl (by solve | repeat' constructor) (by first | rfl | assumption)) rfl rfl rfl ?_
  refine awt_po rfl (wt_none rfl) (pv_len_t T0 rfl rfl rfl) rfl rfl ?_
  refine awt_po rfl (wt_none rfl) (pv_neq rfl rfl rfl) rfl rfl ?_
  refine awt_po rfl (wt_none rfl) (pv_move rfl rfl) rfl rfl ?_
  refine awt_po rfl (wt_some' rfl rfl rfl rfl (by first | rfl | assumption | exact dT (by omega) | exact dF (by omega))) (pv_move rfl rfl) rfl rfl ?_
  refine awt_po rfl (wt_some' rfl rfl rfl rfl (by first | rfl | assumption | exact dT (by omega) | exact dF (by omega))) (pv_move rfl rfl) rfl rfl ?_
  refine awt_po rfl (wt_some' rfl rfl rfl rfl (by first | rfl | assumption | exact dT (by omega) | exact dF (by omega))) (pv_ix_t T0 rfl rfl rfl rfl (by omega) (by first | exact Int.toNat_natCast _ | rfl)) rfl rfl ?_
  refine awt_lo rfl (wt_some' rfl rfl rfl rfl (by first | rfl | assumption | exact dT (by omega) | exact dF (by omega))) (lv_elt_sl T0 rfl rfl rfl rfl) rfl rfl rfl ?_
  refine awt_po rfl (wt_some' rfl rfl rfl rfl (by first | rfl | assumption | exact dT (by omega) | exact dF (by omega))) (pv_len_t T0 rfl rfl rfl) rfl rfl ?_
  refine awt_po rfl (wt_some' rfl rfl rfl rfl (by first | rfl | assumption | exact dT (by omega) | exact dF (by omega))) (pv_fa T0 rfl rfl rfl (by simp; rfl)) rfl rfl ?_
  refine awt_lo rfl (wt_some' rfl rfl rfl rfl (by first | rfl | assumption | exact dT (by omega) | exact dF (by omega))) (lv_cl1 T0 rfl rfl rfl (by solve | repeat' constructor) (by first | rfl | assumption)) rfl rfl rfl ?_
  refine awt_po rfl (wt_some' rfl rfl rfl rfl (by first | rfl | assumption | exact dT (by omega) | exact dF (by omega))) (pv_len_t T0 rfl rfl rfl) rfl rfl ?_
  refine awt_po rfl (wt_some' rfl rfl rfl rfl (by first | rfl | assumption | exact dT (by omega) | exact dF (by omega))) (pv_neq rfl rfl rfl) rfl rfl ?_
  refine awt_po rfl (wt_none rfl) (pv_pick_f rfl rfl (by first | rfl | assumption | exact dT (by omega) | exact dF (by omega)) rfl) rfl rfl ?_
  refine awt_end ?_
  rw [e2]
  exact cut_n ⟨rfl, rfl⟩ (by first | ((repeat' (first | exact True.intro | refine ⟨rfl, ?_⟩)); all_goals fail) | fail) (by solve | repeat' constructor)
end
end Go.Proofs.Ytfiacjdkdjkiiaa
