/- The law TopSplit: its drawn regions. (dayOne) -/
import Derived.Test.YtlpknbneilgjkaaMZ0
import Derived.Test.YtlpknbneilgjkaaGTy
import Derived.Test.YtlpknbneilgjkaaGTs
import Derived.Test.YtlpknbneilgjkaaGPa
import Derived.Test.YtlpknbneilgjkaaTc
namespace Go.Proofs.Ytlpknbneilgjkaa.M
open Go Go.RowKit Go.Tl
set_option linter.unusedVariables false
set_option linter.unusedSimpArgs false
set_option maxRecDepth 100000
set_option maxHeartbeats 4000000
attribute [local irreducible] AWP AWL AOp PV LV AWT AWE AWC
section
-- Try.func3
variable {g5 g13 g14 g20 g25 g26 i c c' : Nat} {n d lo hi st k : Int} {b x : BankD} {l : LoanD} {t : TruthD} {a a' : Option Addr} {rows rows' : List (List AV)} {u1 u4 u30 u31 u32 : AV} {t1 t2 p1 p2 q1 q2 : Tr} {D C : List (List Int)} {V W : List Rng}
theorem mz_4 {ops : Array Oper} (h : regF Try.f3 4 = some ops) :
    AWP Try.prog Try.f3.ntmps none (.region 4 ops true) (cutQ (fun s h => ∃ g13 g14, s = [(1, u1), (4, u4), (5, .v (ptrV g5)), (11, intA n), (12, intA d), (13, .v (ptrV g13)), (14, .v (ptrV g14))] ∧ h = [.cl g5 25 [intA b.stocks, .t (daysT false b.days), .t (loansT false b.loans)], .cl g13 25 [intA b.stocks, .t (daysT false b.days), .t (loansT false b.loans)], .cl g14 25 [intA b.stocks, .t (daysT false b.days), .t (loansT false b.loans)]]))
      [(1, u1), (4, u4), (5, .v (ptrV g5)), (11, intA n), (12, intA d)] [.cl g5 25 [intA b.stocks, .t (daysT false b.days), .t (loansT false b.loans)]] := by
  cases h
  refine awp_C T0 (.op 0 1 (.op 1 1 (.alt (.op 2 2 (.op 3 2 (.op 4 2 (.op 5 2 .stop)))) (.op 3 2 (.op 2 2 (.op 4 2 (.op 5 2 .stop))))))) [.cl g5 _ _] (by kernel_rfl) (by kernel_rfl) (by kernel_rfl) rcA ?_
  refine awc_lo rfl (wt_none rfl) (lv_cla T0 rfl rfl rfl rcA rfl) rfl rfl rfl ?_
  refine awc_lo rfl (wt_none rfl) (lv_cla T0 rfl rfl rfl rcA rfl) rfl rfl rfl ?_
  refine awc_alt ?_ ?_
  · skip
    refine awc_h (hm := []) rfl (wt_none rfl) ?sub5 rfl (st_alloc T0 rfl rfl rfl rfl scA ?_)
    case sub5 => exact rcA
    intro g13
    refine awc_h (hm := []) rfl (wt_none rfl) ?sub8 rfl (st_alloc T0 rfl rfl rfl rfl scA ?_)
    case sub8 => exact rcA
    intro g14
    refine awc_h (hm := _) rfl (wt_none rfl) ?sub11 rfl (st_store_o T0 rfl rfl rfl rfl rfl (by first | assumption | (simp only [cellsA]; rfl)) rfl rfl rfl rcA rcA ?_)
    case sub11 => exact rcA
    refine awc_h (hm := _) rfl (wt_none rfl) ?sub13 rfl (st_store_o T0 rfl rfl rfl rfl rfl (by first | assumption | (simp only [cellsA]; rfl)) rfl rfl rfl rcA rcA ?_)
    case sub13 => exact rcA
    refine awc_end ?_
    exact cut_n ⟨_, _, rfl, rfl⟩ ssA rcA
  refine awc_h (hm := []) rfl (wt_none rfl) ?sub17 rfl (st_alloc T0 rfl rfl rfl rfl scA ?_)
  case sub17 => exact rcA
  intro g14
  refine awc_h (hm := []) rfl (wt_none rfl) ?sub20 rfl (st_alloc T0 rfl rfl rfl rfl scA ?_)
  case sub20 => exact rcA
  intro g13
  refine awc_h (hm := _) rfl (wt_none rfl) ?sub23 rfl (st_store_o T0 rfl rfl rfl rfl rfl (by first | assumption | (simp only [cellsA]; rfl)) rfl rfl rfl rcA rcA ?_)
  case sub23 => exact rcA
  refine awc_h (hm := _) rfl (wt_none rfl) ?sub25 rfl (st_store_o T0 rfl rfl rfl rfl rfl (by first | assumption | (simp only [cellsA]; rfl)) rfl rfl rfl rcA rcA ?_)
  case sub25 => exact rcA
  refine awc_end ?_
  exact cut_n ⟨_, _, rfl, rfl⟩ ssA rcA
theorem mz_12 (hp : 1 ≤ (b.days.getD i default).prices.length ∧ (b.days.getD i default).prices.length ≤ 1000) (hi' : i < b.days.length) (hi8 : i ≤ 8) (h1 : rows.length = i) (h2 : rows'.length = i) (m1 : 0 ≤ n * lo ∧ n * lo ≤ 100000) (m2 : 0 ≤ n * hi ∧ n * hi ≤ 100000) (m3 : 0 ≤ d * lo ∧ d * lo ≤ 100000) (m4 : 0 ≤ d * hi ∧ d * hi ≤ 100000) {ops : Array Oper} (h : regF Try.f3 12 = some ops) :
    AWP Try.prog Try.f3.ntmps none (.region 12 ops true) (cutQ (fun s h => ∃ a c a' c', s = [(1, u1), (4, u4), (5, .v (ptrV g5)), (11, intA n), (12, intA d), (13, .v (ptrV g13)), (14, .v (ptrV g14)), (15, intA i)] ∧ h = [.cl g5 25 [intA b.stocks, .t (daysT false b.days), .t (loansT false b.loans)], .cl g13 25 [intA st, .v (.slice a (i + 1) c), noneA], .rw (.slice a (i + 1) c) 38 3 (rows ++ [[.t (rngsT true ((b.days.getD i default).prices.set 0 ⟨n * lo, n * hi⟩)), intA (b.days.getD i default).rate.lo, intA (b.days.getD i default).rate.hi]]), .cl g14 25 [intA st, .v (.slice a' (i + 1) c'), noneA], .rw (.slice a' (i + 1) c') 38 3 (rows' ++ [[.t (rngsT true ((b.days.getD i default).prices.set 0 ⟨d * lo, d * hi⟩)), intA (b.days.getD i default).rate.lo, intA (b.days.getD i default).rate.hi]])]))
      [(1, u1), (4, u4), (5, .v (ptrV g5)), (11, intA n), (12, intA d), (13, .v (ptrV g13)), (14, .v (ptrV g14)), (15, intA i), (17, intA lo), (18, intA hi)] [.cl g5 25 [intA b.stocks, .t (daysT false b.days), .t (loansT false b.loans)], .cl g13 25 [intA st, .v (.slice a i c), noneA], .rw (.slice a i c) 38 3 rows, .cl g14 25 [intA st, .v (.slice a' i c'), noneA], .rw (.slice a' i c') 38 3 rows'] := by
  cases h
  refine awp_treeN T0 [(0, 0), (1, 1), (2, 0), (3, 1), (4, 0), (5, 0), (6, 1), (7, 0), (8, 0), (9, 0), (10, 0), (11, 0), (12, 0), (13, 0), (17, 0), (18, 1), (19, 0), (20, 1), (21, 0), (22, 0), (23, 1), (24, 0), (25, 0), (26, 0), (27, 0), (28, 0), (29, 0), (30, 0), (14, 2), (15, 2), (16, 2), (34, 0), (31, 2), (32, 2), (33, 3), (35, 3), (36, 0), (37, 3)] (.op 0 0 (.op 1 1 (.op 2 0 (.op 3 1 (.op 4 0 (.op 5 0 (.op 6 1 (.op 7 0 (.op 8 0 (.op 9 0 (.op 10 0 (.op 11 0 (.op 12 0 (.op 13 0 (.op 17 0 (.op 18 1 (.op 19 0 (.op 20 1 (.op 21 0 (.op 22 0 (.op 23 1 (.op 24 0 (.op 25 0 (.op 26 0 (.op 27 0 (.op 28 0 (.op 29 0 (.op 30 0 (.op 14 2 (.op 15 2 (.op 16 2 (.op 34 0 (.op 31 2 (.op 32 2 (.op 33 3 (.op 35 3 (.op 36 0 (.op 37 3 .stop)))))))))))))))))))))))))))))))))))))) [.cl g5 _ _, .cl g13 _ _, .cl g14 _ _] rfl (by kernel_rfl) rcA ?_
  refine awt_po rfl (wt_none rfl) (pv_fa T0 rfl rfl rfl (by simp; rfl)) rfl rfl ?_
  refine awt_lo rfl (wt_none rfl) (lv_cl1 T0 rfl rfl rfl rcA raA) rfl rfl rfl ?_
  refine awt_po rfl (wt_none rfl) (pv_fa T0 rfl rfl rfl (by simp; rfl)) rfl rfl ?_
  refine awt_lo rfl (wt_none rfl) (lv_cl1 T0 rfl rfl rfl rcA raA) rfl rfl rfl ?_
  refine awt_po rfl (wt_none rfl) (pv_move rfl rfl) rfl rfl ?_
  refine awt_po rfl (wt_none rfl) (pv_ix_t T0 rfl rfl rfl rfl (by omega) ixA) rfl rfl ?_
  refine awt_lo rfl (wt_none rfl) (lv_elt_ag T0 rfl rfl rfl rfl rcA) rfl rfl rfl ?_
  refine awt_po rfl (wt_none rfl) (pv_move rfl rfl) rfl rfl ?_
  refine awt_po rfl (wt_none rfl) (pv_move rfl rfl) rfl rfl ?_
  refine awt_po rfl (wt_none rfl) (pv_mul rfl rfl rfl (by first | assumption | exact wr64 (by omega))) rfl rfl ?_
  refine awt_po rfl (wt_none rfl) (pv_move rfl rfl) rfl rfl ?_
  refine awt_po rfl (wt_none rfl) (pv_move rfl rfl) rfl rfl ?_
  refine awt_po rfl (wt_none rfl) (pv_mul rfl rfl rfl (by first | assumption | exact wr64 (by omega))) rfl rfl ?_
  refine awt_po rfl (wt_none rfl) (pv_build T0 rfl rfl rfl scA (by first | ((repeat' (first | exact BParts.nil | apply BParts.cons | rfl)); all_goals fail) | fail) (by first | ((repeat' (first | exact FillA.nil | exact Sp.done | apply FillA.cons | apply Sp.put | apply Sp.skip | (simp only [cellsA]; rfl) | rfl)); all_goals fail) | fail)) rfl rfl ?_
  refine awt_po rfl (wt_none rfl) (pv_fa T0 rfl rfl rfl (by simp; rfl)) rfl rfl ?_
  refine awt_lo rfl (wt_none rfl) (lv_cl1 T0 rfl rfl rfl rcA raA) rfl rfl rfl ?_
  refine awt_po rfl (wt_none rfl) (pv_fa T0 rfl rfl rfl (by simp; rfl)) rfl rfl ?_
  refine awt_lo rfl (wt_none rfl) (lv_cl1 T0 rfl rfl rfl rcA raA) rfl rfl rfl ?_
  refine awt_po rfl (wt_none rfl) (pv_move rfl rfl) rfl rfl ?_
  refine awt_po rfl (wt_none rfl) (pv_ix_t T0 rfl rfl rfl rfl (by omega) ixA) rfl rfl ?_
  refine awt_lo rfl (wt_none rfl) (lv_elt_ag T0 rfl rfl rfl rfl rcA) rfl rfl rfl ?_
  refine awt_po rfl (wt_none rfl) (pv_move rfl rfl) rfl rfl ?_
  refine awt_po rfl (wt_none rfl) (pv_move rfl rfl) rfl rfl ?_
  refine awt_po rfl (wt_none rfl) (pv_mul rfl rfl rfl (by first | assumption | exact wr64 (by omega))) rfl rfl ?_
  refine awt_po rfl (wt_none rfl) (pv_move rfl rfl) rfl rfl ?_
  refine awt_po rfl (wt_none rfl) (pv_move rfl rfl) rfl rfl ?_
  refine awt_po rfl (wt_none rfl) (pv_mul rfl rfl rfl (by first | assumption | exact wr64 (by omega))) rfl rfl ?_
  refine awt_po rfl (wt_none rfl) (pv_build T0 rfl rfl rfl scA (by first | ((repeat' (first | exact BParts.nil | apply BParts.cons | rfl)); all_goals fail) | fail) (by first | ((repeat' (first | exact FillA.nil | exact Sp.done | apply FillA.cons | apply Sp.put | apply Sp.skip | (simp only [cellsA]; rfl) | rfl)); all_goals fail) | fail)) rfl rfl ?_
  refine awt_h (hm := []) rfl (wt_none rfl) rcA rfl (st_call T0 (priced_p (b.days.getD i default) ⟨n * lo, n * hi⟩ hp.1 hp.2) rfl rfl rfl rfl (by first | exact callee_lit | exact callee_v | exact callee_fn | assumption) rcA raA rfl ?_)
  rintro _ rfl
  refine awt_h (hm := []) rfl (wt_none rfl) rcA rfl (st_bsl T0 rfl rfl rfl rfl rfl rcA rfl rfl rfl rfl (by simp only [List.map_cons, List.map_nil, cellsA]; rfl) ?_)
  intro g116
  refine awt_h (hm := _) rfl (wt_none rfl) ?sub rfl (st_app_o T0 rfl rfl rfl rfl rfl rfl rfl rfl rfl rcA rcA rfl rfl h1 (by omega) ?_)
  case sub => exact rcA
  intro a117 c117 p117
  refine awt_po rfl (wt_none rfl) (pv_fa T0 rfl rfl rfl (by simp; rfl)) rfl rfl ?_
  refine awt_h (hm := []) rfl (wt_none rfl) rcA rfl (st_call T0 (priced_p (b.days.getD i default) ⟨d * lo, d * hi⟩ hp.1 hp.2) rfl rfl rfl rfl (by first | exact callee_lit | exact callee_v | exact callee_fn | assumption) rcA raA rfl ?_)
  rintro _ rfl
  refine awt_h (hm := []) rfl (wt_none rfl) rcA rfl (st_bsl T0 rfl rfl rfl rfl rfl rcA rfl rfl rfl rfl (by simp only [List.map_cons, List.map_nil, cellsA]; rfl) ?_)
  intro g133
  refine awt_s (md := fun _ => True) rfl (wt_none rfl) (st_app T0 rfl rfl rfl rfl rfl rfl rfl rfl rfl rcA rcA rfl rfl h2 (by omega) (fun _ _ => trivial) ?_)
  intro a134 c134 p134
  refine awe_s (md := fun _ => True) rfl (wt_none rfl) (st_store T0 rfl rfl rfl rfl rfl (by first | assumption | (simp only [cellsA]; rfl)) rfl rfl rfl rcA rcA trivial ?_)
  first
    | refine awe_p rfl (wt_none rfl) (pv_fa T0 rfl rfl rfl (by simp; rfl)) rfl rfl ?_
    | refine awe_p rfl (wt_none rfl) (pv_fa_elt T0 rfl rfl rfl (by simp; rfl)) rfl rfl ?_
    | refine awe_p rfl (wt_none rfl) (pv_fa_rp T0 rfl rfl rfl (by simp; rfl)) rfl rfl ?_
  refine awe_s (md := fun _ => True) rfl (wt_none rfl) (st_store T0 rfl rfl rfl rfl rfl (by first | assumption | (simp only [cellsA]; rfl)) rfl rfl rfl rcA rcA trivial ?_)
  refine awe_end ?_
  exact cut_n ⟨_, _, _, _, rfl, rfl⟩ ssA rcA
theorem mz_18 (hp : 1 ≤ l.shares.length ∧ l.shares.length ≤ 1000) (hi8 : i ≤ 8) (h1 : rows.length = i) (h2 : rows'.length = i) (m1 : 0 ≤ n * k ∧ n * k ≤ 100000) (m2 : 0 ≤ d * k ∧ d * k ≤ 100000) {ops : Array Oper} (h : regF Try.f3 18 = some ops) :
    AWP Try.prog Try.f3.ntmps none (.region 18 ops true) (cutQ (fun s h => ∃ a c a' c', s = [(1, u1), (4, u4), (5, .v (ptrV g5)), (11, intA n), (12, intA d), (13, .v (ptrV g13)), (14, .v (ptrV g14)), (19, intA i), (21, intA k)] ∧ h = [.cl g5 25 [intA b.stocks, .t (daysT false b.days), .t (loansT false b.loans)], .cl g13 25 [intA st, .t t1, .v (.slice a (i + 1) c)], .rw (.slice a (i + 1) c) 41 3 (rows ++ [[intA l.money, intA l.margin, .t (intsT true (l.shares.set 0 (d * k)))]]), .cl g14 25 [intA st, .t t2, .v (.slice a' (i + 1) c')], .rw (.slice a' (i + 1) c') 41 3 (rows' ++ [[intA l.money, intA l.margin, .t (intsT true (l.shares.set 0 (n * k)))]])]))
      [(1, u1), (4, u4), (5, .v (ptrV g5)), (11, intA n), (12, intA d), (13, .v (ptrV g13)), (14, .v (ptrV g14)), (19, intA i), (20, .v (ptrV g20)), (21, intA k)] [.cl g5 25 [intA b.stocks, .t (daysT false b.days), .t (loansT false b.loans)], .cl g20 41 [intA l.money, intA l.margin, .t (intsT false l.shares)], .cl g13 25 [intA st, .t t1, .v (.slice a i c)], .rw (.slice a i c) 41 3 rows, .cl g14 25 [intA st, .t t2, .v (.slice a' i c')], .rw (.slice a' i c') 41 3 rows'] := by
  cases h
  refine awp_tree T0 [(0, 0), (1, 1), (2, 1), (3, 0), (4, 0), (5, 0), (9, 0), (10, 1), (11, 1), (12, 0), (13, 0), (14, 0), (6, 2), (7, 2), (8, 2), (18, 0), (15, 2), (16, 2), (17, 3), (19, 3), (20, 0), (21, 3)] (.op 0 0 (.op 1 1 (.op 2 1 (.op 3 0 (.op 4 0 (.op 5 0 (.op 9 0 (.op 10 1 (.op 11 1 (.op 12 0 (.op 13 0 (.op 14 0 (.op 6 2 (.op 7 2 (.op 8 2 (.op 18 0 (.op 15 2 (.op 16 2 (.op 17 3 (.op 19 3 (.op 20 0 (.op 21 3 .stop)))))))))))))))))))))) [.cl g20 _ _, .cl g13 _ _, .cl g14 _ _] rfl (by kernel_rfl) rcA ?_
  refine awt_po rfl (wt_none rfl) (pv_fa T0 rfl rfl rfl (by simp; rfl)) rfl rfl ?_
  refine awt_lo rfl (wt_none rfl) (lv_cl1 T0 rfl rfl rfl rcA raA) rfl rfl rfl ?_
  refine awt_lo rfl (wt_none rfl) (lv_cla T0 rfl rfl rfl rcA rfl) rfl rfl rfl ?_
  refine awt_po rfl (wt_none rfl) (pv_move rfl rfl) rfl rfl ?_
  refine awt_po rfl (wt_none rfl) (pv_move rfl rfl) rfl rfl ?_
  refine awt_po rfl (wt_none rfl) (pv_mul rfl rfl rfl (by first | assumption | exact wr64 (by omega))) rfl rfl ?_
  refine awt_po rfl (wt_none rfl) (pv_fa T0 rfl rfl rfl (by simp; rfl)) rfl rfl ?_
  refine awt_lo rfl (wt_none rfl) (lv_cl1 T0 rfl rfl rfl rcA raA) rfl rfl rfl ?_
  refine awt_lo rfl (wt_none rfl) (lv_cla T0 rfl rfl rfl rcA rfl) rfl rfl rfl ?_
  refine awt_po rfl (wt_none rfl) (pv_move rfl rfl) rfl rfl ?_
  refine awt_po rfl (wt_none rfl) (pv_move rfl rfl) rfl rfl ?_
  refine awt_po rfl (wt_none rfl) (pv_mul rfl rfl rfl (by first | assumption | exact wr64 (by omega))) rfl rfl ?_
  refine awt_h (hm := []) rfl (wt_none rfl) rcA rfl (st_call T0 (shared_p l (d * k) hp.1 hp.2) rfl rfl rfl rfl (by first | exact callee_lit | exact callee_v | exact callee_fn | assumption) rcA raA rfl ?_)
  rintro _ rfl
  refine awt_h (hm := []) rfl (wt_none rfl) rcA rfl (st_bsl T0 rfl rfl rfl rfl rfl rcA rfl rfl rfl rfl (by simp only [List.map_cons, List.map_nil, cellsA]; rfl) ?_)
  intro g161
  refine awt_h (hm := _) rfl (wt_none rfl) ?sub rfl (st_app_o T0 rfl rfl rfl rfl rfl rfl rfl rfl rfl rcA rcA rfl rfl h1 (by omega) ?_)
  case sub => exact rcA
  intro a162 c162 p162
  refine awt_po rfl (wt_none rfl) (pv_fa T0 rfl rfl rfl (by simp; rfl)) rfl rfl ?_
  refine awt_h (hm := []) rfl (wt_none rfl) rcA rfl (st_call T0 (shared_p l (n * k) hp.1 hp.2) rfl rfl rfl rfl (by first | exact callee_lit | exact callee_v | exact callee_fn | assumption) rcA raA rfl ?_)
  rintro _ rfl
  refine awt_h (hm := []) rfl (wt_none rfl) rcA rfl (st_bsl T0 rfl rfl rfl rfl rfl rcA rfl rfl rfl rfl (by simp only [List.map_cons, List.map_nil, cellsA]; rfl) ?_)
  intro g170
  refine awt_s (md := fun _ => True) rfl (wt_none rfl) (st_app T0 rfl rfl rfl rfl rfl rfl rfl rfl rfl rcA rcA rfl rfl h2 (by omega) (fun _ _ => trivial) ?_)
  intro a171 c171 p171
  refine awe_s (md := fun _ => True) rfl (wt_none rfl) (st_store T0 rfl rfl rfl rfl rfl (by first | assumption | (simp only [cellsA]; rfl)) rfl rfl rfl rcA rcA trivial ?_)
  first
    | refine awe_p rfl (wt_none rfl) (pv_fa T0 rfl rfl rfl (by simp; rfl)) rfl rfl ?_
    | refine awe_p rfl (wt_none rfl) (pv_fa_elt T0 rfl rfl rfl (by simp; rfl)) rfl rfl ?_
    | refine awe_p rfl (wt_none rfl) (pv_fa_rp T0 rfl rfl rfl (by simp; rfl)) rfl rfl ?_
  refine awe_s (md := fun _ => True) rfl (wt_none rfl) (st_store T0 rfl rfl rfl rfl rfl (by first | assumption | (simp only [cellsA]; rfl)) rfl rfl rfl rcA rcA trivial ?_)
  refine awe_end ?_
  exact cut_n ⟨_, _, _, _, rfl, rfl⟩ ssA rcA
variable {e0 : List AV} {s1 s2 p3 p4 : Tr}
theorem mz_37 (hB : PCall Try.prog 16 [.ag [intA st, .t t1, .t t2]] (fun r => r = bankA true x)) (hT : PCall Try.prog 17 [.ag [.t p1, .t p2]] (fun r => r = truthA t)) (hP : PCall Try.prog 15 [bankA true x, truthA t] (fun r => r = .tup [.t q1, .t q2, intA 0])) {ops : Array Oper} (h : regF Try.f3 37 = some ops) :
    AWP Try.prog Try.f3.ntmps none (.region 37 ops true) (cutQ (fun s h => s = [(4, u4), (5, .v (ptrV g5)), (13, .v (ptrV g13)), (14, .v (ptrV g14)), (26, .v (ptrV g26)), (30, .t q1), (31, .t q2), (32, intA 0)] ∧ h = [.cl g5 25 e0, .cl g13 25 [intA st, .t t1, .t t2], .cl g14 25 [intA st, .t s1, .t s2], .cl g26 31 [.t p3, .t p4]]))
      [(4, u4), (5, .v (ptrV g5)), (13, .v (ptrV g13)), (14, .v (ptrV g14)), (25, .v (ptrV g25)), (26, .v (ptrV g26))] [.cl g5 25 e0, .cl g13 25 [intA st, .t t1, .t t2], .cl g14 25 [intA st, .t s1, .t s2], .cl g25 31 [.t p1, .t p2], .cl g26 31 [.t p3, .t p4]] := by
  cases h
  refine awp_tree T0 [(0, 1), (2, 1), (1, 2), (3, 3), (4, 3), (5, 0), (6, 0), (7, 0), (8, 0), (9, 0), (10, 0), (11, 0)] (.op 0 1 (.op 2 1 (.op 1 2 (.op 3 3 (.op 4 3 (.op 5 0 (.op 6 0 (.op 7 0 (.op 8 0 (.op 9 0 (.op 10 0 (.op 11 0 .stop)))))))))))) [.cl g13 _ _, .cl g25 _ _] rfl (by kernel_rfl) rcA ?_
  refine awt_lo rfl (wt_none rfl) (lv_cla T0 rfl rfl rfl rcA rfl) rfl rfl rfl ?_
  refine awt_lo rfl (wt_none rfl) (lv_cla T0 rfl rfl rfl rcA rfl) rfl rfl rfl ?_
  refine awt_h (hm := []) rfl (wt_none rfl) rcA rfl (st_call T0 (hB) rfl rfl rfl rfl (by first | exact callee_lit | exact callee_v | exact callee_fn | assumption) rcA raA rfl ?_)
  rintro _ rfl
  refine awt_s (md := fun _ => True) rfl (wt_none rfl) (st_call T0 (hT) rfl rfl rfl rfl (by first | exact callee_lit | exact callee_v | exact callee_fn | assumption) rcA raA rfl ?_)
  rintro _ rfl
  refine awe_s (md := fun _ => True) rfl (wt_none rfl) (st_call T0 (hP) rfl rfl rfl rfl (by first | exact callee_lit | exact callee_v | exact callee_fn | assumption) rcA raA rfl ?_)
  rintro _ rfl
  refine awe_p rfl (wt_none rfl) (pv_move rfl rfl) rfl rfl ?_
  refine awe_p rfl (wt_none rfl) (pv_extract rfl rfl rfl) rfl rfl ?_
  refine awe_p rfl (wt_none rfl) (pv_extract rfl rfl rfl) rfl rfl ?_
  refine awe_p rfl (wt_none rfl) (pv_extract rfl rfl rfl) rfl rfl ?_
  refine awe_p rfl (wt_none rfl) (pv_assign rfl rfl) rfl rfl ?_
  refine awe_p rfl (wt_none rfl) (pv_assign rfl rfl) rfl rfl ?_
  refine awe_p rfl (wt_none rfl) (pv_assign rfl rfl) rfl rfl ?_
  refine awe_end ?_
  exact cut_n ⟨rfl, rfl⟩ ssA rcA
theorem mz_38 (hB : PCall Try.prog 16 [.ag [intA st, .t t1, .t t2]] (fun r => r = bankA true x)) (hT : PCall Try.prog 17 [.ag [.t p1, .t p2]] (fun r => r = truthA t)) (hP : PCall Try.prog 15 [bankA true x, truthA t] (fun r => r = .tup [.t q1, .t q2, intA 0])) {ops : Array Oper} (h : regF Try.f3 38 = some ops) :
    AWP Try.prog Try.f3.ntmps none (.region 38 ops true) (cutQ (fun s h => s = [(4, u4), (5, .v (ptrV g5)), (13, .v (ptrV g13)), (14, .v (ptrV g14)), (30, u30), (31, u31), (32, u32), (33, .t q1), (34, .t q2), (35, intA 0)] ∧ h = [.cl g5 25 e0, .cl g13 25 [intA st, .t s1, .t s2], .cl g14 25 [intA st, .t t1, .t t2]]))
      [(4, u4), (5, .v (ptrV g5)), (13, .v (ptrV g13)), (14, .v (ptrV g14)), (26, .v (ptrV g26)), (30, u30), (31, u31), (32, u32)] [.cl g5 25 e0, .cl g13 25 [intA st, .t s1, .t s2], .cl g14 25 [intA st, .t t1, .t t2], .cl g26 31 [.t p1, .t p2]] := by
  cases h
  refine awp_tree T0 [(0, 1), (2, 1), (1, 2), (3, 3), (4, 3), (5, 0), (6, 0), (7, 0), (8, 0), (9, 0), (10, 0), (11, 0)] (.op 0 1 (.op 2 1 (.op 1 2 (.op 3 3 (.op 4 3 (.op 5 0 (.op 6 0 (.op 7 0 (.op 8 0 (.op 9 0 (.op 10 0 (.op 11 0 .stop)))))))))))) [.cl g14 _ _, .cl g26 _ _] rfl (by kernel_rfl) rcA ?_
  refine awt_lo rfl (wt_none rfl) (lv_cla T0 rfl rfl rfl rcA rfl) rfl rfl rfl ?_
  refine awt_lo rfl (wt_none rfl) (lv_cla T0 rfl rfl rfl rcA rfl) rfl rfl rfl ?_
  refine awt_h (hm := []) rfl (wt_none rfl) rcA rfl (st_call T0 (hB) rfl rfl rfl rfl (by first | exact callee_lit | exact callee_v | exact callee_fn | assumption) rcA raA rfl ?_)
  rintro _ rfl
  refine awt_s (md := fun _ => True) rfl (wt_none rfl) (st_call T0 (hT) rfl rfl rfl rfl (by first | exact callee_lit | exact callee_v | exact callee_fn | assumption) rcA raA rfl ?_)
  rintro _ rfl
  refine awe_s (md := fun _ => True) rfl (wt_none rfl) (st_call T0 (hP) rfl rfl rfl rfl (by first | exact callee_lit | exact callee_v | exact callee_fn | assumption) rcA raA rfl ?_)
  rintro _ rfl
  refine awe_p rfl (wt_none rfl) (pv_move rfl rfl) rfl rfl ?_
  refine awe_p rfl (wt_none rfl) (pv_extract rfl rfl rfl) rfl rfl ?_
  refine awe_p rfl (wt_none rfl) (pv_extract rfl rfl rfl) rfl rfl ?_
  refine awe_p rfl (wt_none rfl) (pv_extract rfl rfl rfl) rfl rfl ?_
  refine awe_p rfl (wt_none rfl) (pv_assign rfl rfl) rfl rfl ?_
  refine awe_p rfl (wt_none rfl) (pv_assign rfl rfl) rfl rfl ?_
  refine awe_p rfl (wt_none rfl) (pv_assign rfl rfl) rfl rfl ?_
  refine awe_end ?_
  exact cut_n ⟨rfl, rfl⟩ ssA rcA
theorem mz_47 (hi' : i < D.length) (hc : C.length = D.length) (h1 : (D.getD i []).length ≤ 1000) (h2 : (C.getD i []).length ≤ 1000) {ops : Array Oper} (h : regF Try.f3 47 = some ops) :
    AWP Try.prog Try.f3.ntmps none (.region 47 ops true) (cutQ (fun s h => s = [(30, .t (rowsT false D)), (31, .t (rowsT false C)), (33, .t (rowsT false D)), (34, .t (rowsT false C)), (37, .t (rngsT true V)), (38, .t (rngsT true W)), (40, .t (rngsT true V)), (41, .t (rngsT true W)), (43, intA i), (398, boolA false)] ∧ h = []))
      [(30, .t (rowsT false D)), (31, .t (rowsT false C)), (33, .t (rowsT false D)), (34, .t (rowsT false C)), (37, .t (rngsT true V)), (38, .t (rngsT true W)), (40, .t (rngsT true V)), (41, .t (rngsT true W)), (43, intA i)] [] := by
  cases h
  have s1 := same_p false false (D.getD i []) (D.getD i []) h1 h1 rfl
  have s2 := same_p false false (C.getD i []) (C.getD i []) h2 h2 rfl
  refine awp_treeN T0 [(0, 0), (1, 0), (2, 0), (3, 1), (4, 0), (5, 0), (6, 0), (7, 1), (8, 2), (9, 0), (10, 0), (11, 0), (12, 0), (13, 0), (14, 1), (15, 0), (16, 0), (17, 0), (18, 1), (19, 3), (20, 0), (21, 0)] (.op 0 0 (.op 1 0 (.op 2 0 (.op 3 1 (.op 4 0 (.op 5 0 (.op 6 0 (.op 7 1 (.op 8 2 (.op 9 0 (.op 10 0 (.op 11 0 (.op 12 0 (.op 13 0 (.op 14 1 (.op 15 0 (.op 16 0 (.op 17 0 (.op 18 1 (.op 19 3 (.op 20 0 (.op 21 0 .stop)))))))))))))))))))))) [] rfl (by kernel_rfl) rcA ?_
  refine awt_po rfl (wt_none rfl) (pv_move rfl rfl) rfl rfl ?_
  refine awt_po rfl (wt_none rfl) (pv_move rfl rfl) rfl rfl ?_
  refine awt_po rfl (wt_none rfl) (pv_ix_t T0 rfl rfl rfl rfl (by omega) ixA) rfl rfl ?_
  refine awt_lo rfl (wt_none rfl) (lv_elt_sl T0 rfl rfl rfl rfl) rfl rfl rfl ?_
  refine awt_po rfl (wt_none rfl) (pv_move rfl rfl) rfl rfl ?_
  refine awt_po rfl (wt_none rfl) (pv_move rfl rfl) rfl rfl ?_
  refine awt_po rfl (wt_none rfl) (pv_ix_t T0 rfl rfl rfl rfl (by omega) ixA) rfl rfl ?_
  refine awt_lo rfl (wt_none rfl) (lv_elt_sl T0 rfl rfl rfl rfl) rfl rfl rfl ?_
  refine awt_h (hm := []) rfl (wt_none rfl) rcA rfl (st_call T0 (s1) rfl rfl rfl rfl (by first | exact callee_lit | exact callee_v | exact callee_fn | assumption) rcA raA rfl ?_)
  rintro _ rfl
  refine awt_n1 rfl (wt_none rfl) (pv_not rfl rfl) rfl rfl rfl ?_
  refine awt_n1 rfl (wt_none rfl) (pv_move rfl rfl) rfl rfl rfl ?_
  refine awt_po rfl wtS (pv_move rfl rfl) rfl rfl ?_
  refine awt_po rfl wtS (pv_move rfl rfl) rfl rfl ?_
  refine awt_po rfl wtS (pv_ix_t T0 rfl rfl rfl rfl (by omega) ixA) rfl rfl ?_
  refine awt_lo rfl wtS (lv_elt_sl T0 rfl rfl rfl rfl) rfl rfl rfl ?_
  refine awt_po rfl wtS (pv_move rfl rfl) rfl rfl ?_
  refine awt_po rfl wtS (pv_move rfl rfl) rfl rfl ?_
  refine awt_po rfl wtS (pv_ix_t T0 rfl rfl rfl rfl (by omega) ixA) rfl rfl ?_
  refine awt_lo rfl wtS (lv_elt_sl T0 rfl rfl rfl rfl) rfl rfl rfl ?_
  refine awt_s (md := fun _ => True) rfl wtS (st_call T0 (s2) rfl rfl rfl rfl (by first | exact callee_lit | exact callee_v | exact callee_fn | assumption) rcA raA rfl ?_)
  rintro _ rfl
  first
    | refine awe_p rfl wtS (pv_not rfl rfl) rfl rfl ?_
    | refine awe_sku rfl (wu_some rfl rfl rfl rfl) rfl rfl ?_
    | refine awe_sk rfl (wf_some rfl rfl rfl rfl tfA) rfl rfl ?_
  first
    | refine awe_p rfl (wt_none rfl) (pv_pick_t rfl rfl tfA rfl) rfl rfl ?_
    | refine awe_p rfl (wt_none rfl) (pv_pick_f rfl rfl tfA rfl) rfl rfl ?_
  refine awe_end ?_
  exact cut_n ⟨rfl, rfl⟩ ssA rcA
theorem mz_52 (hi' : i < V.length) (hc : W.length = V.length) {ops : Array Oper} (h : regF Try.f3 52 = some ops) :
    AWP Try.prog Try.f3.ntmps none (.region 52 ops true) (cutQ (fun s h => s = [(37, .t (rngsT true V)), (38, .t (rngsT true W)), (40, .t (rngsT true V)), (41, .t (rngsT true W)), (44, intA i), (424, boolA false)] ∧ h = []))
      [(37, .t (rngsT true V)), (38, .t (rngsT true W)), (40, .t (rngsT true V)), (41, .t (rngsT true W)), (44, intA i)] [] := by
  cases h
  refine awp_treeN T0 [(0, 0), (1, 0), (2, 0), (3, 1), (4, 0), (5, 0), (6, 0), (7, 1), (8, 0), (9, 0), (10, 0), (11, 0), (12, 0), (13, 1), (14, 0), (15, 0), (16, 0), (17, 1), (18, 0), (19, 0)] (.op 0 0 (.op 1 0 (.op 2 0 (.op 3 1 (.op 4 0 (.op 5 0 (.op 6 0 (.op 7 1 (.op 8 0 (.op 9 0 (.op 10 0 (.op 11 0 (.op 12 0 (.op 13 1 (.op 14 0 (.op 15 0 (.op 16 0 (.op 17 1 (.op 18 0 (.op 19 0 .stop)))))))))))))))))))) [] rfl (by kernel_rfl) rcA ?_
  refine awt_po rfl (wt_none rfl) (pv_move rfl rfl) rfl rfl ?_
  refine awt_po rfl (wt_none rfl) (pv_move rfl rfl) rfl rfl ?_
  refine awt_po rfl (wt_none rfl) (pv_ix_t T0 rfl rfl rfl rfl (by omega) ixA) rfl rfl ?_
  refine awt_lo rfl (wt_none rfl) (lv_elt_ag T0 rfl rfl rfl rfl rcA) rfl rfl rfl ?_
  refine awt_po rfl (wt_none rfl) (pv_move rfl rfl) rfl rfl ?_
  refine awt_po rfl (wt_none rfl) (pv_move rfl rfl) rfl rfl ?_
  refine awt_po rfl (wt_none rfl) (pv_ix_t T0 rfl rfl rfl rfl (by omega) ixA) rfl rfl ?_
  refine awt_lo rfl (wt_none rfl) (lv_elt_ag T0 rfl rfl rfl rfl rcA) rfl rfl rfl ?_
  refine awt_po rfl (wt_none rfl) (pv_neq_rng rfl rfl rfl ⟨rfl, rfl⟩) rfl rfl ?_
  refine awt_po rfl (wt_none rfl) (pv_move rfl rfl) rfl rfl ?_
  refine awt_po rfl wtS (pv_move rfl rfl) rfl rfl ?_
  refine awt_po rfl wtS (pv_move rfl rfl) rfl rfl ?_
  refine awt_po rfl wtS (pv_ix_t T0 rfl rfl rfl rfl (by omega) ixA) rfl rfl ?_
  refine awt_lo rfl wtS (lv_elt_ag T0 rfl rfl rfl rfl rcA) rfl rfl rfl ?_
  refine awt_po rfl wtS (pv_move rfl rfl) rfl rfl ?_
  refine awt_po rfl wtS (pv_move rfl rfl) rfl rfl ?_
  refine awt_po rfl wtS (pv_ix_t T0 rfl rfl rfl rfl (by omega) ixA) rfl rfl ?_
  refine awt_lo rfl wtS (lv_elt_ag T0 rfl rfl rfl rfl rcA) rfl rfl rfl ?_
  refine awt_po rfl wtS (pv_neq_rng rfl rfl rfl ⟨rfl, rfl⟩) rfl rfl ?_
  refine awt_po rfl (wt_none rfl) (pv_pick_f rfl rfl tfA rfl) rfl rfl ?_
  refine awt_end ?_
  exact cut_n ⟨rfl, rfl⟩ ssA rcA
end
end Go.Proofs.Ytlpknbneilgjkaa.M
