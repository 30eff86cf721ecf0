/- The law PostTurned: its walk. (appends: ordOne) -/
import Derived.Test.YteaoclpikdmkiaaQe
import Derived.Test.YteaoclpikdmkiaaOa
import Derived.Test.YteaoclpikdmkiaaOj
import Derived.Test.YteaoclpikdmkiaaTlw
import Derived.Test.YteaoclpikdmkiaaTy
import Derived.Test.YteaoclpikdmkiaaTz
import Derived.Test.YteaoclpikdmkiaaTv
namespace Go.Proofs.Yteaoclpikdmkiaa
open Go Go.RowKit Go.Tl
set_option linter.unusedVariables false
set_option linter.unusedSimpArgs false
set_option maxRecDepth 100000
set_option maxHeartbeats 4000000
theorem set_two {rows : List (List AV)} {k : Nat} (h : k < rows.length) {a b : List AV} : (rows.set k a).getD k [] = a ∧ (rows.set k a).set k b = rows.set k b := by
  constructor
  · simp [List.getD_eq_getElem?_getD, h]
  · rw [List.set_set]
attribute [local irreducible] AWP AWL AOp PV LV AWT AWE
section
variable {g2 g5 ga k n : Nat} {p : PostD} {t : List Int} {c : Nat} {rows rows' : List (List AV)} {u1 u7 u8 u12 u10 u15 : AV} {rs ms : List (Int × Int)} {L M : List SaleD} {x y : Ent}
theorem ql_7 (hk : k < p.ords.length) (hl : p.ords.length ≤ 1000) (hb : 0 ≤ (p.ords.getD k default).lim ∧ (p.ords.getD k default).lim ≤ 100) (hrl : rows.length = p.ords.length)
    (hs1 : (rows.set k (spA (rows.getD k []) 0 [boolA (!(p.ords.getD k default).buy)])).set k (spA ((rows.set k (spA (rows.getD k []) 0 [boolA (!(p.ords.getD k default).buy)])).getD k []) 1 [intA (101 - (p.ords.getD k default).lim)]) = rows')
    (hs2 : (rows.set k (spA (rows.getD k []) 1 [intA (101 - (p.ords.getD k default).lim)])).set k (spA ((rows.set k (spA (rows.getD k []) 1 [intA (101 - (p.ords.getD k default).lim)])).getD k []) 0 [boolA (!(p.ords.getD k default).buy)]) = rows') {ops : Array Oper} (h : regF Try.f12 7 = some ops) :
    AWP Try.prog Try.f12.ntmps none (.region 7 ops true) (cutQ (fun s h => s = [(1, u1), (2, .v (ptrV g2)), (5, .v (ptrV g5)), (6, intA k)] ∧ h = [.cl g2 24 [.t (ordsT false p.ords)], .cl g5 24 [.v (.slice (some ⟨ga, 0, none⟩) p.ords.length c)], .rw (.slice (some ⟨ga, 0, none⟩) p.ords.length c) 58 5 rows']))
      [(1, u1), (2, .v (ptrV g2)), (5, .v (ptrV g5)), (6, intA k)] [.cl g2 24 [.t (ordsT false p.ords)], .cl g5 24 [.v (.slice (some ⟨ga, 0, none⟩) p.ords.length c)], .rw (.slice (some ⟨ga, 0, none⟩) p.ords.length c) 58 5 rows] := by
  cases h
  refine awp_treeN T0 [(0, 0), (1, 1), (2, 0), (3, 0), (4, 1), (5, 0), (6, 0), (7, 1), (8, 0), (9, 0), (10, 0), (11, 1), (12, 0), (13, 0), (14, 1), (15, 0), (16, 0), (17, 0), (18, 1), (19, 0), (20, 0), (21, 0), (22, 2), (23, 0), (24, 0), (25, 3)] (.op 0 0 (.op 1 1 (.op 2 0 (.op 3 0 (.op 4 1 (.op 5 0 (.op 6 0 (.op 7 1 (.op 8 0 (.op 9 0 (.op 10 0 (.op 11 1 (.op 12 0 (.op 13 0 (.op 14 1 (.op 15 0 (.op 16 0 (.op 17 0 (.op 18 1 (.op 19 0 (.op 20 0 (.op 21 0 (.op 22 2 (.op 23 0 (.op 24 0 (.op 25 3 .stop)))))))))))))))))))))))))) [.cl g2 _ _, .cl g5 _ _] rfl (by kernel_rfl) (by solve | repeat' constructor) ?_
  refine awt_po rfl (wt_none rfl) (pv_fa T0 rfl rfl rfl (by simp; rfl)) rfl rfl ?_
  refine awt_lo rfl (wt_none rfl) (lv_cl1 T0 rfl rfl rfl (by solve | repeat' constructor) (by first | rfl | assumption)) rfl rfl rfl ?_
  refine awt_po rfl (wt_none rfl) (pv_move rfl rfl) rfl rfl ?_
  refine awt_po rfl (wt_none rfl) (pv_fa T0 rfl rfl rfl (by simp; rfl)) rfl rfl ?_
  refine awt_lo rfl (wt_none rfl) (lv_cl1 T0 rfl rfl rfl (by solve | repeat' constructor) (by first | rfl | assumption)) rfl rfl rfl ?_
  refine awt_po rfl (wt_none rfl) (pv_move rfl rfl) rfl rfl ?_
  refine awt_po rfl (wt_none rfl) (pv_fa T0 rfl rfl rfl (by simp; rfl)) rfl rfl ?_
  refine awt_lo rfl (wt_none rfl) (lv_cl1 T0 rfl rfl rfl (by solve | repeat' constructor) (by first | rfl | assumption)) rfl rfl rfl ?_
  refine awt_po rfl (wt_none rfl) (pv_move rfl rfl) rfl rfl ?_
  refine awt_po rfl (wt_none rfl) (pv_ix_t T0 rfl rfl rfl rfl (by omega) (by first | exact (rfl : Int.toNat 0 = 0) | exact Int.toNat_natCast _ | rfl)) rfl rfl ?_
  refine awt_po rfl (wt_none rfl) (pv_fa_elt T0 rfl rfl rfl (by simp; rfl)) rfl rfl ?_
  refine awt_lo rfl (wt_none rfl) (lv_elt_sc T0 rfl rfl rfl rfl) rfl rfl rfl ?_
  refine awt_po rfl (wt_none rfl) (pv_not rfl rfl) rfl rfl ?_
  refine awt_po rfl (wt_none rfl) (pv_fa T0 rfl rfl rfl (by simp; rfl)) rfl rfl ?_
  refine awt_lo rfl (wt_none rfl) (lv_cl1 T0 rfl rfl rfl (by solve | repeat' constructor) (by first | rfl | assumption)) rfl rfl rfl ?_
  refine awt_po rfl (wt_none rfl) (pv_move rfl rfl) rfl rfl ?_
  refine awt_po rfl (wt_none rfl) (pv_ix_t T0 rfl rfl rfl rfl (by omega) (by first | exact (rfl : Int.toNat 0 = 0) | exact Int.toNat_natCast _ | rfl)) rfl rfl ?_
  refine awt_po rfl (wt_none rfl) (pv_fa_elt T0 rfl rfl rfl (by simp; rfl)) rfl rfl ?_
  refine awt_lo rfl (wt_none rfl) (lv_elt_sc T0 rfl rfl rfl rfl) rfl rfl rfl ?_
  refine awt_po rfl (wt_none rfl) (pv_sub rfl rfl rfl (by first | assumption | exact wr64 (by omega))) rfl rfl ?_
  refine awt_po rfl (wt_none rfl) (pv_ix_own T0 rfl rfl rfl rfl (by omega) (by first | exact (rfl : Int.toNat 0 = 0) | exact Int.toNat_natCast _ | rfl)) rfl rfl ?_
  refine awt_po rfl (wt_none rfl) (pv_fa_rp T0 rfl rfl rfl (by simp; rfl)) rfl rfl ?_
  refine awt_h (hm := _) rfl (wt_none rfl) ?sub rfl (aop_store_rp_o T0 rfl rfl rfl rfl rfl rfl rfl rfl (by solve | repeat' constructor) (by first | omega | (simp; omega)) (by omega) rfl ?_)
  case sub => exact (by solve | repeat' constructor)
  refine awt_po rfl (wt_none rfl) (pv_ix_own T0 rfl rfl rfl rfl (by omega) (by first | exact (rfl : Int.toNat 0 = 0) | exact Int.toNat_natCast _ | rfl)) rfl rfl ?_
  refine awt_po rfl (wt_none rfl) (pv_fa_rp T0 rfl rfl rfl (by simp; rfl)) rfl rfl ?_
  refine awt_s (md := fun _ => True) rfl (wt_none rfl) (aop_store_rp T0 rfl rfl rfl rfl rfl rfl rfl rfl (by solve | repeat' constructor) (by first | omega | (simp; omega)) (by omega) rfl trivial ?_)
  refine awe_end ?_
  simp only [cellsA]
  first | rw [hs1] | rw [hs2]
  exact cut_n ⟨rfl, rfl⟩ (by first | ((repeat' (first | exact True.intro | refine ⟨rfl, ?_⟩)); all_goals fail) | fail) (by solve | repeat' constructor)
theorem ql_18 (hk : k < L.length) (hm : k < M.length) (hl : L.length ≤ 1000 ∧ M.length ≤ 1000) (e1 : decide ((L.getD k default).buyer ≠ (M.getD k default).seller) = false) (e2 : decide ((L.getD k default).seller ≠ (M.getD k default).buyer) = false) (e3 : decide ((L.getD k default).num ≠ (M.getD k default).num) = false)
    (e4 : decide ((L.getD k default).price ≠ 101 - (M.getD k default).price) = false) (hp : -1000 ≤ (M.getD k default).price ∧ (M.getD k default).price ≤ 1000) {ops : Array Oper} (h : regF Try.f12 18 = some ops) :
    AWP Try.prog Try.f12.ntmps none (.region 18 ops true) (cutQ (fun s h => s = [(8, .t (salesT true L)), (10, .t (salesT true M)), (12, u12), (15, u15), (18, intA k), (182, boolA false)] ∧ h = []))
      [(8, .t (salesT true L)), (10, .t (salesT true M)), (12, u12), (15, u15), (18, intA k)] [] := by
  cases h
  refine awp_treeN T0 [(0, 0), (1, 0), (2, 0), (3, 0), (4, 1), (5, 0), (6, 0), (7, 0), (8, 0), (9, 1), (10, 0), (11, 0), (12, 0), (13, 0), (14, 0), (15, 0), (16, 1), (17, 0), (18, 0), (19, 0), (20, 0), (21, 1), (22, 0), (23, 0), (24, 0), (25, 0), (26, 0), (27, 0), (28, 0), (29, 1), (30, 0), (31, 0), (32, 0), (33, 0), (34, 1), (35, 0), (36, 0), (37, 0), (38, 0), (39, 0), (40, 0), (41, 0), (42, 1), (43, 0), (44, 0), (45, 0), (46, 0), (47, 1), (48, 0), (49, 0), (50, 0)] (.op 0 0 (.op 1 0 (.op 2 0 (.op 3 0 (.op 4 1 (.op 5 0 (.op 6 0 (.op 7 0 (.op 8 0 (.op 9 1 (.op 10 0 (.op 11 0 (.op 12 0 (.op 13 0 (.op 14 0 (.op 15 0 (.op 16 1 (.op 17 0 (.op 18 0 (.op 19 0 (.op 20 0 (.op 21 1 (.op 22 0 (.op 23 0 (.op 24 0 (.op 25 0 (.op 26 0 (.op 27 0 (.op 28 0 (.op 29 1 (.op 30 0 (.op 31 0 (.op 32 0 (.op 33 0 (.op 34 1 (.op 35 0 (.op 36 0 (.op 37 0 (.op 38 0 (.op 39 0 (.op 40 0 (.op 41 0 (.op 42 1 (.op 43 0 (.op 44 0 (.op 45 0 (.op 46 0 (.op 47 1 (.op 48 0 (.op 49 0 (.op 50 0 .stop))))))))))))))))))))))))))))))))))))))))))))))))))) _ rfl (by kernel_rfl) (SubH.refl _) ?_
  refine awt_po rfl (wt_none rfl) (pv_move rfl rfl) rfl rfl ?_
  refine awt_po rfl (wt_none rfl) (pv_move rfl rfl) rfl rfl ?_
  refine awt_po rfl (wt_none rfl) (pv_ix_t T0 rfl rfl rfl rfl (by omega) (by first | exact (rfl : Int.toNat 0 = 0) | exact Int.toNat_natCast _ | rfl)) rfl rfl ?_
  refine awt_po rfl (wt_none rfl) (pv_fa_elt T0 rfl rfl rfl (by simp; rfl)) rfl rfl ?_
  refine awt_lo rfl (wt_none rfl) (lv_elt_sc T0 rfl rfl rfl rfl) rfl rfl rfl ?_
  refine awt_po rfl (wt_none rfl) (pv_move rfl rfl) rfl rfl ?_
  refine awt_po rfl (wt_none rfl) (pv_move rfl rfl) rfl rfl ?_
  refine awt_po rfl (wt_none rfl) (pv_ix_t T0 rfl rfl rfl rfl (by omega) (by first | exact (rfl : Int.toNat 0 = 0) | exact Int.toNat_natCast _ | rfl)) rfl rfl ?_
  refine awt_po rfl (wt_none rfl) (pv_fa_elt T0 rfl rfl rfl (by simp; rfl)) rfl rfl ?_
  refine awt_lo rfl (wt_none rfl) (lv_elt_sc T0 rfl rfl rfl rfl) rfl rfl rfl ?_
  refine awt_po rfl (wt_none rfl) (pv_neq rfl rfl rfl) rfl rfl ?_
  refine awt_po rfl (wt_none rfl) (pv_move rfl rfl) rfl rfl ?_
  refine awt_po rfl (wt_some' rfl rfl rfl rfl (by first | rfl | assumption | exact dT (by omega) | exact dF (by omega))) (pv_move rfl rfl) rfl rfl ?_
  refine awt_po rfl (wt_some' rfl rfl rfl rfl (by first | rfl | assumption | exact dT (by omega) | exact dF (by omega))) (pv_move rfl rfl) rfl rfl ?_
  refine awt_po rfl (wt_some' rfl rfl rfl rfl (by first | rfl | assumption | exact dT (by omega) | exact dF (by omega))) (pv_ix_t T0 rfl rfl rfl rfl (by omega) (by first | exact (rfl : Int.toNat 0 = 0) | exact Int.toNat_natCast _ | rfl)) rfl rfl ?_
  refine awt_po rfl (wt_some' rfl rfl rfl rfl (by first | rfl | assumption | exact dT (by omega) | exact dF (by omega))) (pv_fa_elt T0 rfl rfl rfl (by simp; rfl)) rfl rfl ?_
  refine awt_lo rfl (wt_some' rfl rfl rfl rfl (by first | rfl | assumption | exact dT (by omega) | exact dF (by omega))) (lv_elt_sc T0 rfl rfl rfl rfl) rfl rfl rfl ?_
  refine awt_po rfl (wt_some' rfl rfl rfl rfl (by first | rfl | assumption | exact dT (by omega) | exact dF (by omega))) (pv_move rfl rfl) rfl rfl ?_
  refine awt_po rfl (wt_some' rfl rfl rfl rfl (by first | rfl | assumption | exact dT (by omega) | exact dF (by omega))) (pv_move rfl rfl) rfl rfl ?_
  refine awt_po rfl (wt_some' rfl rfl rfl rfl (by first | rfl | assumption | exact dT (by omega) | exact dF (by omega))) (pv_ix_t T0 rfl rfl rfl rfl (by omega) (by first | exact (rfl : Int.toNat 0 = 0) | exact Int.toNat_natCast _ | rfl)) rfl rfl ?_
  refine awt_po rfl (wt_some' rfl rfl rfl rfl (by first | rfl | assumption | exact dT (by omega) | exact dF (by omega))) (pv_fa_elt T0 rfl rfl rfl (by simp; rfl)) rfl rfl ?_
  refine awt_lo rfl (wt_some' rfl rfl rfl rfl (by first | rfl | assumption | exact dT (by omega) | exact dF (by omega))) (lv_elt_sc T0 rfl rfl rfl rfl) rfl rfl rfl ?_
  refine awt_po rfl (wt_some' rfl rfl rfl rfl (by first | rfl | assumption | exact dT (by omega) | exact dF (by omega))) (pv_neq rfl rfl rfl) rfl rfl ?_
  refine awt_po rfl (wt_none rfl) (pv_pick_f rfl rfl (by first | rfl | assumption | exact dT (by omega) | exact dF (by omega)) rfl) rfl rfl ?_
  refine awt_po rfl (wt_none rfl) (pv_move rfl rfl) rfl rfl ?_
  refine awt_po rfl (wt_some' rfl rfl rfl rfl (by first | rfl | assumption | exact dT (by omega) | exact dF (by omega))) (pv_move rfl rfl) rfl rfl ?_
  refine awt_po rfl (wt_some' rfl rfl rfl rfl (by first | rfl | assumption | exact dT (by omega) | exact dF (by omega))) (pv_move rfl rfl) rfl rfl ?_
  refine awt_po rfl (wt_some' rfl rfl rfl rfl (by first | rfl | assumption | exact dT (by omega) | exact dF (by omega))) (pv_ix_t T0 rfl rfl rfl rfl (by omega) (by first | exact (rfl : Int.toNat 0 = 0) | exact Int.toNat_natCast _ | rfl)) rfl rfl ?_
  refine awt_po rfl (wt_some' rfl rfl rfl rfl (by first | rfl | assumption | exact dT (by omega) | exact dF (by omega))) (pv_fa_elt T0 rfl rfl rfl (by simp; rfl)) rfl rfl ?_
  refine awt_lo rfl (wt_some' rfl rfl rfl rfl (by first | rfl | assumption | exact dT (by omega) | exact dF (by omega))) (lv_elt_sc T0 rfl rfl rfl rfl) rfl rfl rfl ?_
  refine awt_po rfl (wt_some' rfl rfl rfl rfl (by first | rfl | assumption | exact dT (by omega) | exact dF (by omega))) (pv_move rfl rfl) rfl rfl ?_
  refine awt_po rfl (wt_some' rfl rfl rfl rfl (by first | rfl | assumption | exact dT (by omega) | exact dF (by omega))) (pv_move rfl rfl) rfl rfl ?_
  refine awt_po rfl (wt_some' rfl rfl rfl rfl (by first | rfl | assumption | exact dT (by omega) | exact dF (by omega))) (pv_ix_t T0 rfl rfl rfl rfl (by omega) (by first | exact (rfl : Int.toNat 0 = 0) | exact Int.toNat_natCast _ | rfl)) rfl rfl ?_
  refine awt_po rfl (wt_some' rfl rfl rfl rfl (by first | rfl | assumption | exact dT (by omega) | exact dF (by omega))) (pv_fa_elt T0 rfl rfl rfl (by simp; rfl)) rfl rfl ?_
  refine awt_lo rfl (wt_some' rfl rfl rfl rfl (by first | rfl | assumption | exact dT (by omega) | exact dF (by omega))) (lv_elt_sc T0 rfl rfl rfl rfl) rfl rfl rfl ?_
  refine awt_po rfl (wt_some' rfl rfl rfl rfl (by first | rfl | assumption | exact dT (by omega) | exact dF (by omega))) (pv_neq rfl rfl rfl) rfl rfl ?_
  refine awt_po rfl (wt_none rfl) (pv_pick_f rfl rfl (by first | rfl | assumption | exact dT (by omega) | exact dF (by omega)) rfl) rfl rfl ?_
  refine awt_po rfl (wt_none rfl) (pv_move rfl rfl) rfl rfl ?_
  refine awt_po rfl (wt_some' rfl rfl rfl rfl (by first | rfl | assumption | exact dT (by omega) | exact dF (by omega))) (pv_move rfl rfl) rfl rfl ?_
  refine awt_po rfl (wt_some' rfl rfl rfl rfl (by first | rfl | assumption | exact dT (by omega) | exact dF (by omega))) (pv_move rfl rfl) rfl rfl ?_
  refine awt_po rfl (wt_some' rfl rfl rfl rfl (by first | rfl | assumption | exact dT (by omega) | exact dF (by omega))) (pv_ix_t T0 rfl rfl rfl rfl (by omega) (by first | exact (rfl : Int.toNat 0 = 0) | exact Int.toNat_natCast _ | rfl)) rfl rfl ?_
  refine awt_po rfl (wt_some' rfl rfl rfl rfl (by first | rfl | assumption | exact dT (by omega) | exact dF (by omega))) (pv_fa_elt T0 rfl rfl rfl (by simp; rfl)) rfl rfl ?_
  refine awt_lo rfl (wt_some' rfl rfl rfl rfl (by first | rfl | assumption | exact dT (by omega) | exact dF (by omega))) (lv_elt_sc T0 rfl rfl rfl rfl) rfl rfl rfl ?_
  refine awt_po rfl (wt_some' rfl rfl rfl rfl (by first | rfl | assumption | exact dT (by omega) | exact dF (by omega))) (pv_move rfl rfl) rfl rfl ?_
  refine awt_po rfl (wt_some' rfl rfl rfl rfl (by first | rfl | assumption | exact dT (by omega) | exact dF (by omega))) (pv_move rfl rfl) rfl rfl ?_
  refine awt_po rfl (wt_some' rfl rfl rfl rfl (by first | rfl | assumption | exact dT (by omega) | exact dF (by omega))) (pv_ix_t T0 rfl rfl rfl rfl (by omega) (by first | exact (rfl : Int.toNat 0 = 0) | exact Int.toNat_natCast _ | rfl)) rfl rfl ?_
  refine awt_po rfl (wt_some' rfl rfl rfl rfl (by first | rfl | assumption | exact dT (by omega) | exact dF (by omega))) (pv_fa_elt T0 rfl rfl rfl (by simp; rfl)) rfl rfl ?_
  refine awt_lo rfl (wt_some' rfl rfl rfl rfl (by first | rfl | assumption | exact dT (by omega) | exact dF (by omega))) (lv_elt_sc T0 rfl rfl rfl rfl) rfl rfl rfl ?_
  refine awt_po rfl (wt_some' rfl rfl rfl rfl (by first | rfl | assumption | exact dT (by omega) | exact dF (by omega))) (pv_sub rfl rfl rfl (by first | assumption | exact wr64 (by omega))) rfl rfl ?_
  refine awt_po rfl (wt_some' rfl rfl rfl rfl (by first | rfl | assumption | exact dT (by omega) | exact dF (by omega))) (pv_neq rfl rfl rfl) rfl rfl ?_
  refine awt_po rfl (wt_none rfl) (pv_pick_f rfl rfl (by first | rfl | assumption | exact dT (by omega) | exact dF (by omega)) rfl) rfl rfl ?_
  refine awt_end ?_
  rw [e4]
  exact cut_n ⟨rfl, rfl⟩ (by first | ((repeat' (first | exact True.intro | refine ⟨rfl, ?_⟩)); all_goals fail) | fail) (by solve | repeat' constructor)
theorem ql_23 (hk : k < rs.length) (hm : k < ms.length) (hl : rs.length ≤ 1000 ∧ ms.length ≤ 1000) (h1 : rs.getD k default = ms.getD k default) {ops : Array Oper} (h : regF Try.f12 23 = some ops) :
    AWP Try.prog Try.f12.ntmps none (.region 23 ops true) (cutQ (fun s h => s = [(12, .t (rngsT true rs)), (15, .t (rngsT true ms)), (19, intA k), (197, boolA false)] ∧ h = []))
      [(12, .t (rngsT true rs)), (15, .t (rngsT true ms)), (19, intA k)] [] := by
  cases h
  have d1 : (!decide (rs.getD k default = ms.getD k default)) = false := by rw [h1]; simp
  refine awp_tree T0 [(0, 0), (1, 0), (2, 0), (3, 1), (4, 0), (5, 0), (6, 0), (7, 1), (8, 0)] (.op 0 0 (.op 1 0 (.op 2 0 (.op 3 1 (.op 4 0 (.op 5 0 (.op 6 0 (.op 7 1 (.op 8 0 .stop))))))))) _ rfl (by kernel_rfl) (SubH.refl _) ?_
  refine awt_po rfl (wt_none rfl) (pv_move rfl rfl) rfl rfl ?_
  refine awt_po rfl (wt_none rfl) (pv_move rfl rfl) rfl rfl ?_
  refine awt_po rfl (wt_none rfl) (pv_ix_t T0 rfl rfl rfl rfl (by omega) (by first | exact (rfl : Int.toNat 0 = 0) | exact Int.toNat_natCast _ | rfl)) rfl rfl ?_
  refine awt_lo rfl (wt_none rfl) (lv_elt_ag T0 rfl rfl rfl rfl (by solve | repeat' constructor)) rfl rfl rfl ?_
  refine awt_po rfl (wt_none rfl) (pv_move rfl rfl) rfl rfl ?_
  refine awt_po rfl (wt_none rfl) (pv_move rfl rfl) rfl rfl ?_
  refine awt_po rfl (wt_none rfl) (pv_ix_t T0 rfl rfl rfl rfl (by omega) (by first | exact (rfl : Int.toNat 0 = 0) | exact Int.toNat_natCast _ | rfl)) rfl rfl ?_
  refine awt_lo rfl (wt_none rfl) (lv_elt_ag T0 rfl rfl rfl rfl (by solve | repeat' constructor)) rfl rfl rfl ?_
  refine awt_po rfl (wt_none rfl) (pv_neq_rng (q := rs.getD k default) (r := ms.getD k default) rfl rfl rfl) rfl rfl ?_
  refine awt_end ?_
  rw [d1]
  exact cut_n ⟨rfl, rfl⟩ (by first | ((repeat' (first | exact True.intro | refine ⟨rfl, ?_⟩)); all_goals fail) | fail) (by solve | repeat' constructor)
end
theorem PostTurned_p (p : PostD) (ws : List Int) (hl : p.ords.length ≤ 9223372036854775807) (hwl : ws.length ≤ 9223372036854775807) (hw : ∀ x ∈ ws, 0 ≤ x ∧ x ≤ 255) : PCall Try.prog 12 [postA false p, .t (kintsT .u8 ws)] (fun r => r = boolA true) := by
  refine acall_of_awp T0 Try.func12 rfl rfl rfl ?_
  repeat (first | refine awp_seq ?_ | refine awp_region_lit rfl ?_)
  refine awl_hw (by first | exact wt_none rfl | exact wt_some' rfl rfl rfl rfl (by first | rfl | assumption | exact dT (by omega) | exact dF (by omega))) (st_box rfl rfl (by first | rfl | assumption) (by first | assumption | (simp only [cellsA]; rfl)) rfl rfl ?_)
  intro g2
  repeat (first | refine awp_seq ?_ | refine awp_region_lit rfl ?_ | ((first | (show AWL _ _ _ (⟨_, .assign _, _, _, _, _⟩ :: _) _ _ _; refine awl_pw ?wtq (pv_assign rfl rfl) rfl rfl ?_) | (show AWL _ _ _ (⟨_, .load _ _, _, _, _, _⟩ :: _) _ _ _; refine awl_lw ?wtq (lv_cla T0 rfl rfl rfl (by solve | repeat' constructor) rfl) rfl rfl rfl ?_)); case wtq => first | exact wt_none rfl | exact wt_some' rfl rfl rfl rfl (by first | rfl | assumption | exact dT (by omega) | exact dF (by omega))) | refine awl_nil ?_)
  cases hrd : (decide (p.ords.length ≤ 9) && decide (faultN p = 0))
  · have hR := ready_q hl hrd
    refine awl_hw (by first | exact wt_none rfl | exact wt_some' rfl rfl rfl rfl (by first | rfl | assumption | exact dT (by omega) | exact dF (by omega))) (st_call T0 (hR) rfl rfl rfl rfl (by first | exact callee_lit | exact callee_v | exact callee_fn | assumption) (by solve | repeat' constructor) (by first | rfl | assumption) rfl ?_)
    rintro _ rfl
    repeat (first | refine awp_seq ?_ | refine awp_region_lit rfl ?_ | refine then_n ?_ | refine awp_cond_t rfl (by first | rfl | assumption | exact dT (by omega)) ?_ | ((first | (show AWL _ _ _ (⟨_, .unOp .not _ _, _, _, _, _⟩ :: _) _ _ _; refine awl_pw ?wtq (pv_not rfl rfl) rfl rfl ?_)); case wtq => first | exact wt_none rfl | exact wt_some' rfl rfl rfl rfl (by first | rfl | assumption | exact dT (by omega) | exact dF (by omega))) | refine awl_nil ?_)
    refine awl_hw (by first | exact wt_none rfl | exact wt_some' rfl rfl rfl rfl (by first | rfl | assumption | exact dT (by omega) | exact dF (by omega))) (st_call T0 (awake_p) rfl rfl rfl rfl (by first | exact callee_lit | exact callee_v | exact callee_fn | assumption) (by solve | repeat' constructor) (by first | rfl | assumption) rfl ?_)
    rintro _ rfl
    repeat (first | refine awp_ret ?_ | refine then_r ?_ | ((first | (show AWL _ _ _ (⟨_, .assign _, _, _, _, _⟩ :: _) _ _ _; refine awl_pw ?wtq (pv_assign rfl rfl) rfl rfl ?_)); case wtq => first | exact wt_none rfl | exact wt_some' rfl rfl rfl rfl (by first | rfl | assumption | exact dT (by omega) | exact dF (by omega))) | refine awl_nil ?_)
    exact body_p (.cons rfl .nil) rfl
  have hR := ready_q hl hrd
  rw [Bool.and_eq_true] at hrd
  have h0 : faultN p = 0 := of_decide_eq_true hrd.2
  have hv := vpost h0
  have hlen := hv.len
  have hpos := hv.pos
  refine awl_hw (by first | exact wt_none rfl | exact wt_some' rfl rfl rfl rfl (by first | rfl | assumption | exact dT (by omega) | exact dF (by omega))) (st_call T0 (hR) rfl rfl rfl rfl (by first | exact callee_lit | exact callee_v | exact callee_fn | assumption) (by solve | repeat' constructor) (by first | rfl | assumption) rfl ?_)
  rintro _ rfl
  repeat (first | refine awp_seq ?_ | refine awp_region_lit rfl ?_ | refine awp_skip ?_ | refine then_n ?_ | refine awp_cond_f rfl (by first | rfl | assumption | exact dF (by omega)) ?_ | ((first | (show AWL _ _ _ (⟨_, .unOp .not _ _, _, _, _, _⟩ :: _) _ _ _; refine awl_pw ?wtq (pv_not rfl rfl) rfl rfl ?_)); case wtq => first | exact wt_none rfl | exact wt_some' rfl rfl rfl rfl (by first | rfl | assumption | exact dT (by omega) | exact dF (by omega))) | refine awl_nil ?_)
  refine awl_hw (by first | exact wt_none rfl | exact wt_some' rfl rfl rfl rfl (by first | rfl | assumption | exact dT (by omega) | exact dF (by omega))) (st_bsl T0 rfl rfl rfl rfl rfl (by solve | repeat' constructor) rfl rfl rfl rfl (by simp only [List.map_cons, List.map_nil, cellsA]; rfl) ?_)
  intro g24
  repeat (first | ((first | (show AWL _ _ _ (⟨_, .load _ _, _, _, _, _⟩ :: _) _ _ _; refine awl_lw ?wtq (lv_cl1 T0 rfl rfl rfl (by solve | repeat' constructor) (by first | rfl | assumption)) rfl rfl rfl ?_) | (show AWL _ _ _ (⟨_, .fieldAddr _ _ _, _, _, _, _⟩ :: _) _ _ _; refine awl_pw ?wtq (pv_fa T0 rfl rfl rfl (by simp; rfl)) rfl rfl ?_)); case wtq => first | exact wt_none rfl | exact wt_some' rfl rfl rfl rfl (by first | rfl | assumption | exact dT (by omega) | exact dF (by omega))))
  refine awl_hw (by first | exact wt_none rfl | exact wt_some' rfl rfl rfl rfl (by first | rfl | assumption | exact dT (by omega) | exact dF (by omega))) (st_appt T0 rfl rfl rfl rfl rfl rfl rfl rfl rfl (by solve | repeat' constructor) (by first | exact ordOne _ | (intro k hk u hu; simp at hu; subst hu; rfl)) (rfl : ([] : List (List AV)).length = 0) (by first | omega | (simp; omega)) (fun _ _ => trivial) rfl ?_)
  intro a26 c26 p26
  simp only [List.nil_append, List.length_nil, Nat.zero_add, ordRows_range]
  repeat (first | ((first | (show AWL _ _ _ (⟨_, .build _ _, _, _, _, _⟩ :: _) _ _ _; refine awl_pw ?wtq (pv_build T0 rfl rfl rfl (by simp only [Value.cells, List.toList_toArray, List.map_cons, List.map_nil]; rfl) (by first | ((repeat' (first | exact BParts.nil | apply BParts.cons | rfl)); all_goals fail) | fail) (by first | ((repeat' (first | exact FillA.nil | exact Sp.done | apply FillA.cons | apply Sp.put | apply Sp.skip | (simp only [cellsA]; rfl) | rfl)); all_goals fail) | fail)) rfl rfl ?_)); case wtq => first | exact wt_none rfl | exact wt_some' rfl rfl rfl rfl (by first | rfl | assumption | exact dT (by omega) | exact dF (by omega))))
  refine awl_hw (by first | exact wt_none rfl | exact wt_some' rfl rfl rfl rfl (by first | rfl | assumption | exact dT (by omega) | exact dF (by omega))) (st_alloc T0 rfl rfl rfl rfl (by simp only [Value.cells, List.toList_toArray, List.map_cons, List.map_nil]; rfl) ?_)
  intro g5
  repeat (first | refine awp_seq ?_ | refine awp_block ?_ | refine awp_region_lit rfl ?_ | ((first | (show AWL _ _ _ (⟨_, .assign _, _, _, _, _⟩ :: _) _ _ _; refine awl_pw ?wtq (pv_assign rfl rfl) rfl rfl ?_)); case wtq => first | exact wt_none rfl | exact wt_some' rfl rfl rfl rfl (by first | rfl | assumption | exact dT (by omega) | exact dF (by omega))) | (show AWL _ _ _ (⟨_, .store _ _ _, _, _, _, _⟩ :: _) _ _ _; refine awl_hw (by first | exact wt_none rfl | exact wt_some' rfl rfl rfl rfl (by first | rfl | assumption | exact dT (by omega) | exact dF (by omega))) (st_store T0 rfl rfl rfl rfl rfl (by first | assumption | (simp only [cellsA]; rfl)) rfl rfl rfl (by solve | repeat' constructor) (by solve | repeat' constructor) trivial ?_)) | refine awl_nil ?_)
  obtain ⟨ga, rfl⟩ := p26 (by omega)
  have hr0 := mix_zero p turnF
  rw [show p.ords.map ordRow = (mixF p turnF 0).ords.map ordRow from by rw [hr0]]
  refine awp_loop (fun m s h => ∃ (k : Nat), k ≤ p.ords.length ∧ m = p.ords.length - k ∧ s = [(1, .t (kintsT .u8 ws)), (2, .v (ptrV g2)), (5, .v (ptrV g5)), (6, intA k)] ∧ h = [.cl g2 24 [.t (ordsT false p.ords)], .cl g5 24 [.v (.slice (some ⟨ga, 0, none⟩) p.ords.length c26)], .rw (.slice (some ⟨ga, 0, none⟩) p.ords.length c26) 58 5 ((mixF p turnF k).ords.map ordRow)]) ?_ ⟨0, Nat.zero_le _, rfl, rfl, rfl⟩ (by first | ((repeat' (first | exact True.intro | refine ⟨rfl, ?_⟩)); all_goals fail) | fail) (by solve | repeat' constructor)
  rintro m s h ⟨k, hk, rfl, rfl, rfl⟩
  have hrl := mix_rows p turnF k
  by_cases hkt : k < p.ords.length
  · have hlk := hv.lim k hkt
    have hr1 := mix_row0 (f := turnF) hkt
    have hs1 : (((mixF p turnF k).ords.map ordRow).set k (spA (((mixF p turnF k).ords.map ordRow).getD k []) 0 [boolA (!(p.ords.getD k default).buy)])).set k (spA ((((mixF p turnF k).ords.map ordRow).set k (spA (((mixF p turnF k).ords.map ordRow).getD k []) 0 [boolA (!(p.ords.getD k default).buy)])).getD k []) 1 [intA (101 - (p.ords.getD k default).lim)]) = (mixF p turnF (k + 1)).ords.map ordRow := by
      rw [(set_two (by omega) (a := spA (((mixF p turnF k).ords.map ordRow).getD k []) 0 [boolA (!(p.ords.getD k default).buy)]) (b := [])).1, (set_two (by omega) (a := spA (((mixF p turnF k).ords.map ordRow).getD k []) 0 [boolA (!(p.ords.getD k default).buy)])).2, hr1]
      exact mix_set hkt rfl
    have hs2 : (((mixF p turnF k).ords.map ordRow).set k (spA (((mixF p turnF k).ords.map ordRow).getD k []) 1 [intA (101 - (p.ords.getD k default).lim)])).set k (spA ((((mixF p turnF k).ords.map ordRow).set k (spA (((mixF p turnF k).ords.map ordRow).getD k []) 1 [intA (101 - (p.ords.getD k default).lim)])).getD k []) 0 [boolA (!(p.ords.getD k default).buy)]) = (mixF p turnF (k + 1)).ords.map ordRow := by
      rw [(set_two (by omega) (a := spA (((mixF p turnF k).ords.map ordRow).getD k []) 1 [intA (101 - (p.ords.getD k default).lim)]) (b := [])).1, (set_two (by omega) (a := spA (((mixF p turnF k).ords.map ordRow).getD k []) 1 [intA (101 - (p.ords.getD k default).lim)])).2, hr1]
      exact mix_set hkt rfl
    repeat (first | refine awp_seq ?_ | refine awp_block ?_ | refine awp_region_lit rfl ?_ | refine awp_skip ?_ | refine then_n ?_ | refine awp_cond_t rfl (by first | rfl | assumption | exact dT (by omega)) ?_ | ((first | (show AWL _ _ _ (⟨_, .move _, _, _, _, _⟩ :: _) _ _ _; refine awl_pw ?wtq (pv_move rfl rfl) rfl rfl ?_) | (show AWL _ _ _ (⟨_, .load _ _, _, _, _, _⟩ :: _) _ _ _; refine awl_lw ?wtq (lv_cl1 T0 rfl rfl rfl (by solve | repeat' constructor) (by first | rfl | assumption)) rfl rfl rfl ?_) | (show AWL _ _ _ (⟨_, .fieldAddr _ _ _, _, _, _, _⟩ :: _) _ _ _; refine awl_pw ?wtq (pv_fa T0 rfl rfl rfl (by simp; rfl)) rfl rfl ?_) | (show AWL _ _ _ (⟨_, .binOp .lss _ _ _ _, _, _, _, _⟩ :: _) _ _ _; refine awl_pw ?wtq (pv_lss rfl rfl rfl) rfl rfl ?_) | (show AWL _ _ _ (⟨_, .call ⟨.builtin .len, _, _⟩, _, _, _, _⟩ :: _) _ _ _; refine awl_pw ?wtq (pv_len_v T0 rfl rfl rfl) rfl rfl ?_)); case wtq => first | exact wt_none rfl | exact wt_some' rfl rfl rfl rfl (by first | rfl | assumption | exact dT (by omega) | exact dF (by omega))) | refine awl_nil ?_)
    refine awp_cutB _ (awp_weak (by first | ((repeat' (first | exact True.intro | refine ⟨rfl, ?_⟩)); all_goals fail) | fail) (by solve | repeat' constructor) (ql_7 (g2 := g2) (g5 := g5) (ga := ga) (k := k) (p := p) (c := c26) (u1 := .t (kintsT .u8 ws)) (rows := (mixF p turnF k).ords.map ordRow) hkt (by omega) (by omega) hrl hs1 hs2 rfl)) ?_
    rintro s h ⟨rfl, rfl⟩
    repeat (first | refine awp_region_lit rfl ?_ | ((first | (show AWL _ _ _ (⟨_, .move _, _, _, _, _⟩ :: _) _ _ _; refine awl_pw ?wtq (pv_move rfl rfl) rfl rfl ?_) | (show AWL _ _ _ (⟨_, .assign _, _, _, _, _⟩ :: _) _ _ _; refine awl_pw ?wtq (pv_assign rfl rfl) rfl rfl ?_) | (show AWL _ _ _ (⟨_, .binOp .add _ _ _ _, _, _, _, _⟩ :: _) _ _ _; refine awl_pw ?wtq (pv_add rfl rfl rfl (by first | assumption | exact wr64 (by omega))) rfl rfl ?_)); case wtq => first | exact wt_none rfl | exact wt_some' rfl rfl rfl rfl (by first | rfl | assumption | exact dT (by omega) | exact dF (by omega))) | refine awl_nil ?_)
    refine rnd_n _ _ _ ?_ ⟨k + 1, hkt, rfl, rfl, rfl⟩ (by first | ((repeat' (first | exact True.intro | refine ⟨rfl, ?_⟩)); all_goals fail) | fail) (by solve | repeat' constructor)
    omega
  as_aux_lemma =>
    obtain rfl : k = p.ords.length := by omega
    rw [show mixF p turnF p.ords.length = turnP p from rfl] at hrl ⊢
    have hxl : (turnP p).ords.length = p.ords.length := mix_len _ _ _
    have h0x := turn_ok hv
    have hvx := vpost h0x
    have ht := pick_truth hv hw
    have htl := pick_len p ws p.ords.length
    have hPk := picked_p p ws hv hwl hw
    generalize pickL p ws p.ords.length = t at *
    have htx := turn_truth.2 ht
    have hP := Play_p true true p t (by omega) (by omega)
    have hPR : playR p t = (playT p t, 0) := by unfold playR; rw [if_neg (fun h => h h0), if_pos ht]
    rw [hPR] at hP
    have hPx := Play_p true true (turnP p) t (by omega) (by omega)
    have hPRx : playR (turnP p) t = (playT (turnP p) t, 0) := by unfold playR; rw [if_neg (fun h => h h0x), if_pos htx]
    rw [hPRx] at hPx
    have hLM := turn_play ht
    have hLl := (play_fair hv ht).len
    have hS := play_sok hv ht
    have hpr : ∀ s ∈ playT p t, 0 ≤ s.price ∧ s.price ≤ 100 := fun s hs => by
      have h1 := hS s hs
      have h2 := h1.bl
      have h3 := h1.sl
      have h4 : 1 ≤ (oAt p s.buyer.toNat).lim ∧ (oAt p s.buyer.toNat).lim ≤ 100 := hv.lim s.buyer.toNat (by omega)
      have h5 : 1 ≤ (oAt p s.seller.toNat).lim ∧ (oAt p s.seller.toNat).lim ≤ 100 := hv.lim s.seller.toNat (by omega)
      have h6 := h1.hi
      have h7 := h1.lo
      exact ⟨by omega, by omega⟩
    have hFl := Fills_p true p (by omega)
    have hFx := Fills_p true (turnP p) (by omega)
    rw [fillsR_ok h0] at hFl
    rw [fillsR_ok h0x] at hFx
    have hrs : ((List.range (turnP p).ords.length).map fun i => (bndL (filF i) (leaves (turnP p))).2) = ((List.range p.ords.length).map fun i => (bndL (filF i) (leaves p)).2) := by
      rw [hxl]
      exact List.map_congr_left fun i _ => turn_bdF hv i
    rw [hrs] at hFx
    have hl1 : ((List.range p.ords.length).map fun i => (bndL (filF i) (leaves p)).2).length ≤ 6 := by simp; omega
    generalize ((List.range p.ords.length).map fun i => (bndL (filF i) (leaves p)).2) = rs at *
    generalize ((List.range p.ords.length).map fun i => (bndL (filM i) (leaves p)).2) = ms at *
    generalize ((List.range (turnP p).ords.length).map fun i => (bndL (filM i) (leaves (turnP p))).2) = ms' at *
    generalize playT p t = L at *
    generalize playT (turnP p) t = M at *
    have hMl : M.length = L.length := by rw [hLM, List.length_map]
    have hMat : ∀ k, k < L.length → M.getD k default = turnS true (L.getD k default) := fun k hk => by rw [hLM]; simp [List.getD_eq_getElem?_getD, hk]
    have hFl' : PCall Try.prog 29 [postA true p] (fun r => r = .tup [.t (rngsT true rs), .t (rngsT true ms), intA 0]) := hFl
    have hFx' : PCall Try.prog 29 [postA true (turnP p)] (fun r => r = .tup [.t (rngsT true rs), .t (rngsT true ms'), intA 0]) := hFx
    have hP' : PCall Try.prog 19 [postA true p, .t (intsT true t)] (fun r => r = .tup [.t (salesT true L), intA 0]) := hP
    have hPx' : PCall Try.prog 19 [postA true (turnP p), .t (intsT true t)] (fun r => r = .tup [.t (salesT true M), intA 0]) := hPx
    have hpw := post_w true (turnP p) (by omega)
    have htree := mix_tree (turnP p)
    rw [hxl] at htree
    clear hFl hFx hP hPx hPR hPRx h0x hvx htx hr0 hrs hLM
    generalize turnP p = x at *
    refine awp_ghost (ghost_freeze_cell (g := g5) (j := 0) (v := .slice (some ⟨ga, 0, none⟩) p.ords.length c26) (E := 58) (sz := 5) (n := p.ords.length) (rows := x.ords.map ordRow) (fun q => ordL (x.ords.getD q default)) (by solve | repeat' constructor) (by solve | repeat' constructor) rfl rfl hrl htree) ?_
    rw [show Tr.sl true 5 p.ords.length (fun q => ordL (x.ords.getD q default)) = ordsT true x.ords from by rw [← hxl]; rfl]
    have d1 : decide ((L.length : Int) ≠ M.length) = false := decide_eq_false (by omega)
    have d2 : decide ((rs.length : Int) ≠ rs.length) = false := decide_eq_false (by omega)
    have d3 : decide ((40 : Int) < L.length) = false := decide_eq_false (by omega)
    repeat (first | refine awp_seq ?_ | refine awp_region_lit rfl ?_ | refine awp_exit ?_ | refine then_n ?_ | refine awp_cond_f rfl (by first | rfl | assumption | exact dF (by omega)) ?_ | ((first | (show AWL _ _ _ (⟨_, .move _, _, _, _, _⟩ :: _) _ _ _; refine awl_pw ?wtq (pv_move rfl rfl) rfl rfl ?_) | (show AWL _ _ _ (⟨_, .load _ _, _, _, _, _⟩ :: _) _ _ _; refine awl_lw ?wtq (lv_cl1 T0 rfl rfl rfl (by solve | repeat' constructor) (by first | rfl | assumption)) rfl rfl rfl ?_) | (show AWL _ _ _ (⟨_, .load _ _, _, _, _, _⟩ :: _) _ _ _; refine awl_lw ?wtq (lv_cla T0 rfl rfl rfl (by solve | repeat' constructor) rfl) rfl rfl rfl ?_) | (show AWL _ _ _ (⟨_, .fieldAddr _ _ _, _, _, _, _⟩ :: _) _ _ _; refine awl_pw ?wtq (pv_fa T0 rfl rfl rfl (by simp; rfl)) rfl rfl ?_) | (show AWL _ _ _ (⟨_, .binOp .lss _ _ _ _, _, _, _, _⟩ :: _) _ _ _; refine awl_pw ?wtq (pv_lss rfl rfl rfl) rfl rfl ?_) | (show AWL _ _ _ (⟨_, .call ⟨.builtin .len, _, _⟩, _, _, _, _⟩ :: _) _ _ _; refine awl_pw ?wtq (pv_len_t T0 rfl rfl rfl) rfl rfl ?_)); case wtq => first | exact wt_none rfl | exact wt_some' rfl rfl rfl rfl (by first | rfl | assumption | exact dT (by omega) | exact dF (by omega))) | refine awl_nil ?_)
    refine awl_hw (by first | exact wt_none rfl | exact wt_some' rfl rfl rfl rfl (by first | rfl | assumption | exact dT (by omega) | exact dF (by omega))) (st_call T0 (hPk) rfl rfl rfl rfl (by first | exact callee_lit | exact callee_v | exact callee_fn | assumption) (by solve | repeat' constructor) (by first | rfl | assumption) rfl ?_)
    rintro _ rfl
    repeat (first | refine awp_seq ?_ | refine awp_region_lit rfl ?_ | ((first | (show AWL _ _ _ (⟨_, .assign _, _, _, _, _⟩ :: _) _ _ _; refine awl_pw ?wtq (pv_assign rfl rfl) rfl rfl ?_) | (show AWL _ _ _ (⟨_, .load _ _, _, _, _, _⟩ :: _) _ _ _; refine awl_lw ?wtq (lv_cla T0 rfl rfl rfl (by solve | repeat' constructor) rfl) rfl rfl rfl ?_)); case wtq => first | exact wt_none rfl | exact wt_some' rfl rfl rfl rfl (by first | rfl | assumption | exact dT (by omega) | exact dF (by omega))) | refine awl_nil ?_)
    refine awl_hw (by first | exact wt_none rfl | exact wt_some' rfl rfl rfl rfl (by first | rfl | assumption | exact dT (by omega) | exact dF (by omega))) (st_call T0 (post_p p (by omega)) rfl rfl rfl rfl (by first | exact callee_lit | exact callee_v | exact callee_fn | assumption) (by solve | repeat' constructor) (by first | rfl | assumption) rfl ?_)
    rintro _ rfl
    repeat (first | ((first | (show AWL _ _ _ (⟨_, .move _, _, _, _, _⟩ :: _) _ _ _; refine awl_pw ?wtq (pv_move rfl rfl) rfl rfl ?_)); case wtq => first | exact wt_none rfl | exact wt_some' rfl rfl rfl rfl (by first | rfl | assumption | exact dT (by omega) | exact dF (by omega))))
    refine awl_hw (by first | exact wt_none rfl | exact wt_some' rfl rfl rfl rfl (by first | rfl | assumption | exact dT (by omega) | exact dF (by omega))) (st_call T0 (list_p true t (by omega)) rfl rfl rfl rfl (by first | exact callee_lit | exact callee_v | exact callee_fn | assumption) (by solve | repeat' constructor) (by first | rfl | assumption) rfl ?_)
    rintro _ rfl
    skip
    refine awl_hw (by first | exact wt_none rfl | exact wt_some' rfl rfl rfl rfl (by first | rfl | assumption | exact dT (by omega) | exact dF (by omega))) (st_call T0 (hP') rfl rfl rfl rfl (by first | exact callee_lit | exact callee_v | exact callee_fn | assumption) (by solve | repeat' constructor) (by first | rfl | assumption) rfl ?_)
    rintro _ rfl
    repeat (first | refine awp_seq ?_ | refine awp_region_lit rfl ?_ | ((first | (show AWL _ _ _ (⟨_, .move _, _, _, _, _⟩ :: _) _ _ _; refine awl_pw ?wtq (pv_move rfl rfl) rfl rfl ?_) | (show AWL _ _ _ (⟨_, .assign _, _, _, _, _⟩ :: _) _ _ _; refine awl_pw ?wtq (pv_assign rfl rfl) rfl rfl ?_) | (show AWL _ _ _ (⟨_, .load _ _, _, _, _, _⟩ :: _) _ _ _; refine awl_lw ?wtq (lv_cla T0 rfl rfl rfl (by solve | repeat' constructor) rfl) rfl rfl rfl ?_) | (show AWL _ _ _ (⟨_, .extract _ _, _, _, _, _⟩ :: _) _ _ _; refine awl_pw ?wtq (pv_extract rfl rfl rfl) rfl rfl ?_)); case wtq => first | exact wt_none rfl | exact wt_some' rfl rfl rfl rfl (by first | rfl | assumption | exact dT (by omega) | exact dF (by omega))) | refine awl_nil ?_)
    refine awl_hw (by first | exact wt_none rfl | exact wt_some' rfl rfl rfl rfl (by first | rfl | assumption | exact dT (by omega) | exact dF (by omega))) (st_call T0 (hpw) rfl rfl rfl rfl (by first | exact callee_lit | exact callee_v | exact callee_fn | assumption) (by solve | repeat' constructor) (by first | rfl | assumption) rfl ?_)
    rintro _ rfl
    repeat (first | ((first | (show AWL _ _ _ (⟨_, .move _, _, _, _, _⟩ :: _) _ _ _; refine awl_pw ?wtq (pv_move rfl rfl) rfl rfl ?_)); case wtq => first | exact wt_none rfl | exact wt_some' rfl rfl rfl rfl (by first | rfl | assumption | exact dT (by omega) | exact dF (by omega))))
    refine awl_hw (by first | exact wt_none rfl | exact wt_some' rfl rfl rfl rfl (by first | rfl | assumption | exact dT (by omega) | exact dF (by omega))) (st_call T0 (list_p true t (by omega)) rfl rfl rfl rfl (by first | exact callee_lit | exact callee_v | exact callee_fn | assumption) (by solve | repeat' constructor) (by first | rfl | assumption) rfl ?_)
    rintro _ rfl
    skip
    refine awl_hw (by first | exact wt_none rfl | exact wt_some' rfl rfl rfl rfl (by first | rfl | assumption | exact dT (by omega) | exact dF (by omega))) (st_call T0 (hPx') rfl rfl rfl rfl (by first | exact callee_lit | exact callee_v | exact callee_fn | assumption) (by solve | repeat' constructor) (by first | rfl | assumption) rfl ?_)
    rintro _ rfl
    repeat (first | refine awp_seq ?_ | refine awp_region_lit rfl ?_ | ((first | (show AWL _ _ _ (⟨_, .move _, _, _, _, _⟩ :: _) _ _ _; refine awl_pw ?wtq (pv_move rfl rfl) rfl rfl ?_) | (show AWL _ _ _ (⟨_, .assign _, _, _, _, _⟩ :: _) _ _ _; refine awl_pw ?wtq (pv_assign rfl rfl) rfl rfl ?_) | (show AWL _ _ _ (⟨_, .load _ _, _, _, _, _⟩ :: _) _ _ _; refine awl_lw ?wtq (lv_cla T0 rfl rfl rfl (by solve | repeat' constructor) rfl) rfl rfl rfl ?_) | (show AWL _ _ _ (⟨_, .extract _ _, _, _, _, _⟩ :: _) _ _ _; refine awl_pw ?wtq (pv_extract rfl rfl rfl) rfl rfl ?_)); case wtq => first | exact wt_none rfl | exact wt_some' rfl rfl rfl rfl (by first | rfl | assumption | exact dT (by omega) | exact dF (by omega))) | refine awl_nil ?_)
    refine awl_hw (by first | exact wt_none rfl | exact wt_some' rfl rfl rfl rfl (by first | rfl | assumption | exact dT (by omega) | exact dF (by omega))) (st_call T0 (post_p p (by omega)) rfl rfl rfl rfl (by first | exact callee_lit | exact callee_v | exact callee_fn | assumption) (by solve | repeat' constructor) (by first | rfl | assumption) rfl ?_)
    rintro _ rfl
    skip
    refine awl_hw (by first | exact wt_none rfl | exact wt_some' rfl rfl rfl rfl (by first | rfl | assumption | exact dT (by omega) | exact dF (by omega))) (st_call T0 (hFl') rfl rfl rfl rfl (by first | exact callee_lit | exact callee_v | exact callee_fn | assumption) (by solve | repeat' constructor) (by first | rfl | assumption) rfl ?_)
    rintro _ rfl
    repeat (first | refine awp_seq ?_ | refine awp_region_lit rfl ?_ | ((first | (show AWL _ _ _ (⟨_, .move _, _, _, _, _⟩ :: _) _ _ _; refine awl_pw ?wtq (pv_move rfl rfl) rfl rfl ?_) | (show AWL _ _ _ (⟨_, .assign _, _, _, _, _⟩ :: _) _ _ _; refine awl_pw ?wtq (pv_assign rfl rfl) rfl rfl ?_) | (show AWL _ _ _ (⟨_, .load _ _, _, _, _, _⟩ :: _) _ _ _; refine awl_lw ?wtq (lv_cla T0 rfl rfl rfl (by solve | repeat' constructor) rfl) rfl rfl rfl ?_) | (show AWL _ _ _ (⟨_, .extract _ _, _, _, _, _⟩ :: _) _ _ _; refine awl_pw ?wtq (pv_extract rfl rfl rfl) rfl rfl ?_)); case wtq => first | exact wt_none rfl | exact wt_some' rfl rfl rfl rfl (by first | rfl | assumption | exact dT (by omega) | exact dF (by omega))) | refine awl_nil ?_)
    refine awl_hw (by first | exact wt_none rfl | exact wt_some' rfl rfl rfl rfl (by first | rfl | assumption | exact dT (by omega) | exact dF (by omega))) (st_call T0 (hpw) rfl rfl rfl rfl (by first | exact callee_lit | exact callee_v | exact callee_fn | assumption) (by solve | repeat' constructor) (by first | rfl | assumption) rfl ?_)
    rintro _ rfl
    skip
    refine awl_hw (by first | exact wt_none rfl | exact wt_some' rfl rfl rfl rfl (by first | rfl | assumption | exact dT (by omega) | exact dF (by omega))) (st_call T0 (hFx') rfl rfl rfl rfl (by first | exact callee_lit | exact callee_v | exact callee_fn | assumption) (by solve | repeat' constructor) (by first | rfl | assumption) rfl ?_)
    rintro _ rfl
    repeat (first | refine awp_seq ?_ | refine awp_block ?_ | refine awp_region_lit rfl ?_ | refine awp_skip ?_ | refine then_n ?_ | refine awp_cond_f rfl (by first | rfl | assumption | exact dF (by omega)) ?_ | ((first | (show AWL _ _ _ (⟨_, .move _, _, _, _, _⟩ :: _) _ _ _; refine awl_pw ?wtq (pv_move rfl rfl) rfl rfl ?_) | (show AWL _ _ _ (⟨_, .assign _, _, _, _, _⟩ :: _) _ _ _; refine awl_pw ?wtq (pv_assign rfl rfl) rfl rfl ?_) | (show AWL _ _ _ (⟨_, .binOp .gtr _ _ _ _, _, _, _, _⟩ :: _) _ _ _; refine awl_pw ?wtq (pv_gtr rfl rfl rfl) rfl rfl ?_) | (show AWL _ _ _ (⟨_, .binOp .neq _ _ _ _, _, _, _, _⟩ :: _) _ _ _; refine awl_pw ?wtq (pv_neq rfl rfl rfl) rfl rfl ?_) | (show AWL _ _ _ (⟨_, .call ⟨.builtin .len, _, _⟩, _, _, _, _⟩ :: _) _ _ _; refine awl_pw ?wtq (pv_len_t T0 rfl rfl rfl) rfl rfl ?_) | (show AWL _ _ _ (⟨_, .extract _ _, _, _, _, _⟩ :: _) _ _ _; refine awl_pw ?wtq (pv_extract rfl rfl rfl) rfl rfl ?_) | (show AWL _ _ _ (⟨_, .pick _ _ _, _, _, _, _⟩ :: _) _ _ _; refine awl_pw ?wtq (pv_pick_f rfl rfl (by first | rfl | assumption | exact dT (by omega) | exact dF (by omega)) rfl) rfl rfl ?_)); case wtq => first | exact wt_none rfl | exact wt_some' rfl rfl rfl rfl (by first | rfl | assumption | exact dT (by omega) | exact dF (by omega))) | refine awl_nil ?_)
    refine awp_cutX (fun s h => s = [(12, .t (rngsT true rs)), (15, .t (rngsT true rs))] ∧ h = []) ?_ ?_
    · refine awp_loop (fun m s h => ∃ (k : Nat), k ≤ L.length ∧ m = L.length - k ∧ s = [(8, .t (salesT true L)), (10, .t (salesT true M)), (12, .t (rngsT true rs)), (15, .t (rngsT true rs)), (18, intA k)] ∧ h = []) ?_ ⟨0, Nat.zero_le _, rfl, rfl, rfl⟩ (by first | ((repeat' (first | exact True.intro | refine ⟨rfl, ?_⟩)); all_goals fail) | fail) (by solve | repeat' constructor)
      rintro m s h ⟨k, hk, rfl, rfl, rfl⟩
      by_cases hkt : k < L.length
      case neg =>
        repeat (first | refine awp_seq ?_ | refine awp_region_lit rfl ?_ | refine awp_exit ?_ | refine then_n ?_ | refine then_x ?_ | refine blk_x ?_ | refine rnd_x ?_ | refine awp_cond_f rfl (by first | rfl | assumption | exact dF (by omega)) ?_ | ((first | (show AWL _ _ _ (⟨_, .move _, _, _, _, _⟩ :: _) _ _ _; refine awl_pw ?wtq (pv_move rfl rfl) rfl rfl ?_) | (show AWL _ _ _ (⟨_, .binOp .lss _ _ _ _, _, _, _, _⟩ :: _) _ _ _; refine awl_pw ?wtq (pv_lss rfl rfl rfl) rfl rfl ?_) | (show AWL _ _ _ (⟨_, .call ⟨.builtin .len, _, _⟩, _, _, _, _⟩ :: _) _ _ _; refine awl_pw ?wtq (pv_len_t T0 rfl rfl rfl) rfl rfl ?_)); case wtq => first | exact wt_none rfl | exact wt_some' rfl rfl rfl rfl (by first | rfl | assumption | exact dT (by omega) | exact dF (by omega))) | refine awl_nil ?_)
        exact cut_n ⟨rfl, rfl⟩ (by first | ((repeat' (first | exact True.intro | refine ⟨rfl, ?_⟩)); all_goals fail) | fail) (by solve | repeat' constructor)
      have e := hMat k hkt
      rw [turnS_yes] at e
      have hp := hpr _ (getD_mem (d := default) hkt)
      repeat (first | refine awp_seq ?_ | refine awp_block ?_ | refine awp_region_lit rfl ?_ | refine awp_skip ?_ | refine then_n ?_ | refine awp_cond_t rfl (by first | rfl | assumption | exact dT (by omega)) ?_ | ((first | (show AWL _ _ _ (⟨_, .move _, _, _, _, _⟩ :: _) _ _ _; refine awl_pw ?wtq (pv_move rfl rfl) rfl rfl ?_) | (show AWL _ _ _ (⟨_, .binOp .lss _ _ _ _, _, _, _, _⟩ :: _) _ _ _; refine awl_pw ?wtq (pv_lss rfl rfl rfl) rfl rfl ?_) | (show AWL _ _ _ (⟨_, .call ⟨.builtin .len, _, _⟩, _, _, _, _⟩ :: _) _ _ _; refine awl_pw ?wtq (pv_len_t T0 rfl rfl rfl) rfl rfl ?_)); case wtq => first | exact wt_none rfl | exact wt_some' rfl rfl rfl rfl (by first | rfl | assumption | exact dT (by omega) | exact dF (by omega))) | refine awl_nil ?_)
      refine awp_cut _ (awp_weak (by first | ((repeat' (first | exact True.intro | refine ⟨rfl, ?_⟩)); all_goals fail) | fail) (by solve | repeat' constructor) (ql_18 (k := k) (L := L) (M := M) (u12 := .t (rngsT true rs)) (u15 := .t (rngsT true rs)) hkt (by omega) (by omega) (by rw [e]; exact decide_eq_false (fun h => h rfl)) (by rw [e]; exact decide_eq_false (fun h => h rfl)) (by rw [e]; exact decide_eq_false (fun h => h rfl)) (by rw [e]; exact decide_eq_false (fun h => h (by show _ = 101 - (101 - _); omega))) (by rw [e]; show -1000 ≤ 101 - _ ∧ 101 - _ ≤ 1000; omega) rfl)) ?_
      rintro s h ⟨rfl, rfl⟩
      repeat (first | refine awp_region_lit rfl ?_ | refine awp_skip ?_ | refine awp_cond_f rfl (by first | rfl | assumption | exact dF (by omega)) ?_ | ((first | (show AWL _ _ _ (⟨_, .move _, _, _, _, _⟩ :: _) _ _ _; refine awl_pw ?wtq (pv_move rfl rfl) rfl rfl ?_) | (show AWL _ _ _ (⟨_, .assign _, _, _, _, _⟩ :: _) _ _ _; refine awl_pw ?wtq (pv_assign rfl rfl) rfl rfl ?_) | (show AWL _ _ _ (⟨_, .binOp .add _ _ _ _, _, _, _, _⟩ :: _) _ _ _; refine awl_pw ?wtq (pv_add rfl rfl rfl (by first | assumption | exact wr64 (by omega))) rfl rfl ?_)); case wtq => first | exact wt_none rfl | exact wt_some' rfl rfl rfl rfl (by first | rfl | assumption | exact dT (by omega) | exact dF (by omega))) | refine awl_nil ?_)
      refine rnd_n _ _ _ ?_ ⟨k + 1, hkt, rfl, rfl, rfl⟩ (by first | ((repeat' (first | exact True.intro | refine ⟨rfl, ?_⟩)); all_goals fail) | fail) (by solve | repeat' constructor)
      omega
    rintro s h ⟨rfl, rfl⟩
    repeat (first | refine awp_seq ?_ | refine awp_block ?_ | refine awp_region_lit rfl ?_ | ((first | (show AWL _ _ _ (⟨_, .assign _, _, _, _, _⟩ :: _) _ _ _; refine awl_pw ?wtq (pv_assign rfl rfl) rfl rfl ?_)); case wtq => first | exact wt_none rfl | exact wt_some' rfl rfl rfl rfl (by first | rfl | assumption | exact dT (by omega) | exact dF (by omega))) | refine awl_nil ?_)
    refine awp_loop (fun m s h => ∃ (k : Nat), k ≤ rs.length ∧ m = rs.length - k ∧ s = [(12, .t (rngsT true rs)), (15, .t (rngsT true rs)), (19, intA k)] ∧ h = []) ?_ ⟨0, Nat.zero_le _, rfl, rfl, rfl⟩ (by first | ((repeat' (first | exact True.intro | refine ⟨rfl, ?_⟩)); all_goals fail) | fail) (by solve | repeat' constructor)
    rintro m s h ⟨k, hk, rfl, rfl, rfl⟩
    by_cases hkt : k < rs.length
    case neg =>
      repeat (first | refine awp_seq ?_ | refine awp_region_lit rfl ?_ | refine awp_exit ?_ | refine then_n ?_ | refine awp_cond_f rfl (by first | rfl | assumption | exact dF (by omega)) ?_ | ((first | (show AWL _ _ _ (⟨_, .move _, _, _, _, _⟩ :: _) _ _ _; refine awl_pw ?wtq (pv_move rfl rfl) rfl rfl ?_) | (show AWL _ _ _ (⟨_, .binOp .lss _ _ _ _, _, _, _, _⟩ :: _) _ _ _; refine awl_pw ?wtq (pv_lss rfl rfl rfl) rfl rfl ?_) | (show AWL _ _ _ (⟨_, .call ⟨.builtin .len, _, _⟩, _, _, _, _⟩ :: _) _ _ _; refine awl_pw ?wtq (pv_len_t T0 rfl rfl rfl) rfl rfl ?_)); case wtq => first | exact wt_none rfl | exact wt_some' rfl rfl rfl rfl (by first | rfl | assumption | exact dT (by omega) | exact dF (by omega))) | refine awl_nil ?_)
      refine awl_hw (by first | exact wt_none rfl | exact wt_some' rfl rfl rfl rfl (by first | rfl | assumption | exact dT (by omega) | exact dF (by omega))) (st_call T0 (awake_p) rfl rfl rfl rfl (by first | exact callee_lit | exact callee_v | exact callee_fn | assumption) (by solve | repeat' constructor) (by first | rfl | assumption) rfl ?_)
      rintro _ rfl
      repeat (first | refine awp_ret ?_ | ((first | (show AWL _ _ _ (⟨_, .assign _, _, _, _, _⟩ :: _) _ _ _; refine awl_pw ?wtq (pv_assign rfl rfl) rfl rfl ?_)); case wtq => first | exact wt_none rfl | exact wt_some' rfl rfl rfl rfl (by first | rfl | assumption | exact dT (by omega) | exact dF (by omega))) | refine awl_nil ?_)
      exact body_p (.cons rfl .nil) rfl
    repeat (first | refine awp_seq ?_ | refine awp_block ?_ | refine awp_region_lit rfl ?_ | refine awp_skip ?_ | refine then_n ?_ | refine awp_cond_t rfl (by first | rfl | assumption | exact dT (by omega)) ?_ | ((first | (show AWL _ _ _ (⟨_, .move _, _, _, _, _⟩ :: _) _ _ _; refine awl_pw ?wtq (pv_move rfl rfl) rfl rfl ?_) | (show AWL _ _ _ (⟨_, .binOp .lss _ _ _ _, _, _, _, _⟩ :: _) _ _ _; refine awl_pw ?wtq (pv_lss rfl rfl rfl) rfl rfl ?_) | (show AWL _ _ _ (⟨_, .call ⟨.builtin .len, _, _⟩, _, _, _, _⟩ :: _) _ _ _; refine awl_pw ?wtq (pv_len_t T0 rfl rfl rfl) rfl rfl ?_)); case wtq => first | exact wt_none rfl | exact wt_some' rfl rfl rfl rfl (by first | rfl | assumption | exact dT (by omega) | exact dF (by omega))) | refine awl_nil ?_)
    refine awp_cut _ (awp_weak (by first | ((repeat' (first | exact True.intro | refine ⟨rfl, ?_⟩)); all_goals fail) | fail) (by solve | repeat' constructor) (ql_23 (k := k) (rs := rs) (ms := rs) hkt hkt (by omega) rfl rfl)) ?_
    rintro s h ⟨rfl, rfl⟩
    repeat (first | refine awp_region_lit rfl ?_ | refine awp_skip ?_ | refine awp_cond_f rfl (by first | rfl | assumption | exact dF (by omega)) ?_ | ((first | (show AWL _ _ _ (⟨_, .move _, _, _, _, _⟩ :: _) _ _ _; refine awl_pw ?wtq (pv_move rfl rfl) rfl rfl ?_) | (show AWL _ _ _ (⟨_, .assign _, _, _, _, _⟩ :: _) _ _ _; refine awl_pw ?wtq (pv_assign rfl rfl) rfl rfl ?_) | (show AWL _ _ _ (⟨_, .binOp .add _ _ _ _, _, _, _, _⟩ :: _) _ _ _; refine awl_pw ?wtq (pv_add rfl rfl rfl (by first | assumption | exact wr64 (by omega))) rfl rfl ?_)); case wtq => first | exact wt_none rfl | exact wt_some' rfl rfl rfl rfl (by first | rfl | assumption | exact dT (by omega) | exact dF (by omega))) | refine awl_nil ?_)
    refine rnd_n _ _ _ ?_ ⟨k + 1, hkt, rfl, rfl, rfl⟩ (by first | ((repeat' (first | exact True.intro | refine ⟨rfl, ?_⟩)); all_goals fail) | fail) (by solve | repeat' constructor)
    omega
end Go.Proofs.Yteaoclpikdmkiaa
