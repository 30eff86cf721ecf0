/- The law MarginPrices: its drawn regions. -/
import Derived.Test.YtfiacjdkdjkiiaaGPv
import Derived.Test.YtfiacjdkdjkiiaaGTx
namespace Go.Proofs.Ytfiacjdkdjkiiaa
open Go Go.RowKit Go.Tl
set_option linter.unusedVariables false
set_option linter.unusedSimpArgs false
set_option maxRecDepth 100000
set_option maxHeartbeats 2000000
attribute [local irreducible] AWP AWL AOp PV LV AWT AWE
theorem last_at {rows : List (List AV)} {x : AV} {k : Nat} (h : rows.length = k) : ((rows ++ [[x]]).getD k [])[0]? = some x := by
  subst h; simp
abbrev prS (g4 g9 g10 g12 g13 n i : Nat) : Slots := [(4, .v (.pointer (some ⟨g4, 0, none⟩))), (9, .v (.pointer (some ⟨g9, 0, none⟩))), (10, .v (.pointer (some ⟨g10, 0, none⟩))), (11, intA n), (12, .v (.pointer (some ⟨g12, 0, none⟩))), (13, .v (.pointer (some ⟨g13, 0, none⟩))), (14, intA i)]
abbrev prH (b : BankD) (t o : TruthD) (g4 g9 g10 g12 g13 i : Nat) (a : Option Addr) (c : Nat) (a' : Option Addr) (c' : Nat) (a2 : Option Addr) (c2 : Nat) (a3 : Option Addr) (c3 : Nat) (r1 r2 r3 r4 : List (List AV)) (i' : Nat) : List Ent :=
  [.cl g4 25 [intA b.stocks, .t (daysT false b.days), .t (loansT false b.loans)], .cl g9 29 [.t (rowsT false t.prices), .t (intsT false t.rates)], .cl g10 29 [.t (rowsT false o.prices), .t (intsT false o.rates)], .cl g12 29 [.v (.slice a i c), .v (.slice a' i' c')], .cl g13 29 [.v (.slice a2 i c2), .v (.slice a3 i' c3)], .rw (.slice a i c) 27 1 r1, .rw (.slice a' i' c') 3 1 r2, .rw (.slice a2 i c2) 27 1 r3, .rw (.slice a3 i' c3) 3 1 r4]
section
variable {b : BankD} {t o : TruthD} {g4 g9 g10 g12 g13 n i : Nat} {a a' a2 a3 : Option Addr} {c c' c2 c3 : Nat} {r1 r2 r3 r4 : List (List AV)}
theorem pr_14 {j f f' : Nat} {e e' : Option Addr} {rp rq : List (List AV)} (k1 : i < t.prices.length) (k2 : i < o.prices.length) (k3 : j < (t.prices.getD i []).length) (k4 : j < (o.prices.getD i []).length) (hj : j ≤ 1000) (hp1 : rp.length = j) {ops : Array Oper} (h : regF Try.f10 14 = some ops) :
    AWP Try.prog Try.f10.ntmps none (.region 14 ops true) (cutQ (fun s h => ∃ ga d, s = prS g4 g9 g10 g12 g13 n i ++ [(15, .v (.slice (some ⟨ga, 0, none⟩) (j + 1) d)), (16, .v (.slice e' j f')), (17, intA j)] ∧
      h = prH b t o g4 g9 g10 g12 g13 i a c a' c' a2 c2 a3 c3 r1 r2 r3 r4 i ++ [.rw (.slice (some ⟨ga, 0, none⟩) (j + 1) d) 3 1 (rp ++ [[intA (max ((t.prices.getD i []).getD j 0) ((o.prices.getD i []).getD j 0))]]), .rw (.slice e' j f') 3 1 rq]))
      (prS g4 g9 g10 g12 g13 n i ++ [(15, .v (.slice e j f)), (16, .v (.slice e' j f')), (17, intA j)]) (prH b t o g4 g9 g10 g12 g13 i a c a' c' a2 c2 a3 c3 r1 r2 r3 r4 i ++ [.rw (.slice e j f) 3 1 rp, .rw (.slice e' j f') 3 1 rq]) := by
  cases h
  simp only [List.cons_append, List.nil_append]
  refine awp_tree T0 [(0, 0), (1, 0), (2, 1), (3, 0), (4, 0), (5, 1), (6, 0), (7, 0), (8, 1), (9, 0), (10, 1), (11, 0), (12, 0), (13, 1), (14, 0), (15, 0), (16, 1), (17, 0), (18, 3), (19, 3), (20, 0)] (.op 0 0 (.op 1 0 (.op 2 1 (.op 3 0 (.op 4 0 (.op 5 1 (.op 6 0 (.op 7 0 (.op 8 1 (.op 9 0 (.op 10 1 (.op 11 0 (.op 12 0 (.op 13 1 (.op 14 0 (.op 15 0 (.op 16 1 (.op 17 0 (.op 18 3 (.op 19 3 (.op 20 0 .stop))))))))))))))))))))) _ rfl (by kernel_rfl) (SubH.refl _) ?_
  refine awt_po rfl (wt_none rfl) (pv_move rfl rfl) rfl rfl ?_
  refine awt_po rfl (wt_none rfl) (pv_fa T0 rfl rfl rfl (by simp; rfl)) rfl rfl ?_
  refine awt_lo rfl (wt_none rfl) (lv_cl1 T0 rfl rfl rfl (by solve | repeat' constructor) (by first | rfl | assumption)) rfl rfl rfl ?_
  refine awt_po rfl (wt_none rfl) (pv_move rfl rfl) rfl rfl ?_
  refine awt_po rfl (wt_none rfl) (pv_ix_t T0 rfl rfl rfl rfl (by omega) (by first | exact Int.toNat_natCast _ | rfl)) rfl rfl ?_
  refine awt_lo rfl (wt_none rfl) (lv_elt_sl T0 rfl rfl rfl rfl) rfl rfl rfl ?_
  refine awt_po rfl (wt_none rfl) (pv_move rfl rfl) rfl rfl ?_
  refine awt_po rfl (wt_none rfl) (pv_ix_t T0 rfl rfl rfl rfl (by omega) (by first | exact Int.toNat_natCast _ | rfl)) rfl rfl ?_
  refine awt_lo rfl (wt_none rfl) (lv_elt_sc T0 rfl rfl rfl rfl) rfl rfl rfl ?_
  refine awt_po rfl (wt_none rfl) (pv_fa T0 rfl rfl rfl (by simp; rfl)) rfl rfl ?_
  refine awt_lo rfl (wt_none rfl) (lv_cl1 T0 rfl rfl rfl (by solve | repeat' constructor) (by first | rfl | assumption)) rfl rfl rfl ?_
  refine awt_po rfl (wt_none rfl) (pv_move rfl rfl) rfl rfl ?_
  refine awt_po rfl (wt_none rfl) (pv_ix_t T0 rfl rfl rfl rfl (by omega) (by first | exact Int.toNat_natCast _ | rfl)) rfl rfl ?_
  refine awt_lo rfl (wt_none rfl) (lv_elt_sl T0 rfl rfl rfl rfl) rfl rfl rfl ?_
  refine awt_po rfl (wt_none rfl) (pv_move rfl rfl) rfl rfl ?_
  refine awt_po rfl (wt_none rfl) (pv_ix_t T0 rfl rfl rfl rfl (by omega) (by first | exact Int.toNat_natCast _ | rfl)) rfl rfl ?_
  refine awt_lo rfl (wt_none rfl) (lv_elt_sc T0 rfl rfl rfl rfl) rfl rfl rfl ?_
  refine awt_po rfl (wt_none rfl) (pv_max2 rfl rfl rfl) rfl rfl ?_
  refine awt_s (md := fun _ => True) rfl (wt_none rfl) (st_bsl T0 rfl rfl rfl rfl rfl (by solve | repeat' constructor) rfl rfl rfl rfl (by simp only [List.map_cons, List.map_nil, cellsA]; rfl) ?_)
  intro g78
  refine awe_s (md := fun _ => True) rfl (wt_none rfl) (st_app T0 rfl rfl rfl rfl rfl rfl rfl rfl rfl (by solve | repeat' constructor) (by solve | repeat' constructor) rfl rfl hp1 (by omega) (fun _ _ => trivial) ?_)
  intro a79 c79 p79
  refine awe_p rfl (wt_none rfl) (pv_assign rfl rfl) rfl rfl ?_
  refine awe_end ?_
  obtain ⟨ga, rfl⟩ := p79 (by omega)
  exact cut_n ⟨_, _, rfl, rfl⟩ (by first | ((repeat' (first | exact True.intro | refine ⟨rfl, ?_⟩)); all_goals fail) | fail) (by solve | repeat' constructor)
theorem pr_18 {M1 M2 : List Int} (hi : i ≤ 1000) (hn1 : r1.length = i) (hn3 : r3.length = i) {ops : Array Oper} (h : regF Try.f10 18 = some ops) :
    AWP Try.prog Try.f10.ntmps none (.region 18 ops true) (cutQ (fun s h => ∃ b1 d1 b2 d2, s = prS g4 g9 g10 g12 g13 n i ∧ h = prH b t o g4 g9 g10 g12 g13 (i + 1) b1 d1 a' c' b2 d2 a3 c3 (r1 ++ [lstRow M1]) r2 (r3 ++ [lstRow M2]) r4 i))
      (prS g4 g9 g10 g12 g13 n i ++ [(15, .t (intsT true M1)), (16, .t (intsT true M2))]) (prH b t o g4 g9 g10 g12 g13 i a c a' c' a2 c2 a3 c3 r1 r2 r3 r4 i) := by
  cases h
  simp only [List.cons_append, List.nil_append]
  refine awp_tree T0 [(0, 0), (1, 1), (2, 0), (5, 0), (6, 1), (7, 0), (3, 2), (4, 2), (10, 0), (8, 2), (9, 3), (11, 3), (12, 0), (13, 3)] (.op 0 0 (.op 1 1 (.op 2 0 (.op 5 0 (.op 6 1 (.op 7 0 (.fork 3 (.fork 4 (.op 10 0 (.op 8 2 (.op 9 3 (.op 11 3 (.op 12 0 (.op 13 3 .stop)))))) 8 (.op 4 2 (.op 10 0 (.op 9 3 (.op 11 3 (.op 12 0 (.op 13 3 .stop))))))) 8 (.op 3 2 (.op 4 2 (.op 10 0 (.op 9 3 (.op 11 3 (.op 12 0 (.op 13 3 .stop)))))))))))))) [.cl g12 _ _, .cl g13 _ _] rfl (by kernel_rfl) (by solve | repeat' constructor) ?_
  refine awt_po rfl (wt_none rfl) (pv_fa T0 rfl rfl rfl (by simp; rfl)) rfl rfl ?_
  refine awt_lo rfl (wt_none rfl) (lv_cl1 T0 rfl rfl rfl (by solve | repeat' constructor) (by first | rfl | assumption)) rfl rfl rfl ?_
  refine awt_po rfl (wt_none rfl) (pv_move rfl rfl) rfl rfl ?_
  refine awt_po rfl (wt_none rfl) (pv_fa T0 rfl rfl rfl (by simp; rfl)) rfl rfl ?_
  refine awt_lo rfl (wt_none rfl) (lv_cl1 T0 rfl rfl rfl (by solve | repeat' constructor) (by first | rfl | assumption)) rfl rfl rfl ?_
  refine awt_po rfl (wt_none rfl) (pv_move rfl rfl) rfl rfl ?_
  refine awt_fork ?_ ?_
  · skip
    refine awt_h (hm := []) rfl (wt_none rfl) (by solve | repeat' constructor) rfl (st_bsl T0 rfl rfl rfl rfl rfl (by solve | repeat' constructor) rfl rfl rfl rfl (by simp only [List.map_cons, List.map_nil, cellsA]; rfl) ?_)
    intro g104
    refine awt_fork ?_ ?_
    · skip
      refine awt_h (hm := _) rfl (wt_none rfl) ?sub rfl (st_app_o T0 rfl rfl rfl rfl rfl rfl rfl rfl rfl (by solve | repeat' constructor) (by solve | repeat' constructor) rfl rfl hn1 (by omega) ?_)
      case sub => exact (by solve | repeat' constructor)
      intro a105 c105 p105
      refine awt_po rfl (wt_none rfl) (pv_fa T0 rfl rfl rfl (by simp; rfl)) rfl rfl ?_
      refine awt_h (hm := []) rfl (wt_none rfl) (by solve | repeat' constructor) rfl (st_bsl T0 rfl rfl rfl rfl rfl (by solve | repeat' constructor) rfl rfl rfl rfl (by simp only [List.map_cons, List.map_nil, cellsA]; rfl) ?_)
      intro g109
      refine awt_s (md := fun _ => True) rfl (wt_none rfl) (st_app T0 rfl rfl rfl rfl rfl rfl rfl rfl rfl (by solve | repeat' constructor) (by solve | repeat' constructor) rfl rfl hn3 (by omega) (fun _ _ => trivial) ?_)
      intro a110 c110 p110
      refine awe_s (md := fun _ => True) rfl (wt_none rfl) (st_store T0 rfl rfl rfl rfl rfl (by simp only [cellsA]; rfl) rfl rfl rfl (by solve | repeat' constructor) (by solve | repeat' constructor) trivial ?_)
      first
        | refine awe_p rfl (wt_none rfl) (pv_fa T0 rfl rfl rfl (by simp; rfl)) rfl rfl ?_
        | refine awe_p rfl (wt_none rfl) (pv_fa_elt T0 rfl rfl rfl (by simp; rfl)) rfl rfl ?_
        | refine awe_p rfl (wt_none rfl) (pv_fa_rp T0 rfl rfl rfl (by simp; rfl)) rfl rfl ?_
      refine awe_s (md := fun _ => True) rfl (wt_none rfl) (st_store T0 rfl rfl rfl rfl rfl (by simp only [cellsA]; rfl) rfl rfl rfl (by solve | repeat' constructor) (by solve | repeat' constructor) trivial ?_)
      refine awe_end ?_
      exact cut_n ⟨_, _, _, _, rfl, rfl⟩ (by first | ((repeat' (first | exact True.intro | refine ⟨rfl, ?_⟩)); all_goals fail) | fail) (by solve | repeat' constructor)
    · skip
      refine awt_h (hm := []) rfl (wt_none rfl) (by solve | repeat' constructor) rfl (st_bsl T0 rfl rfl rfl rfl rfl (by solve | repeat' constructor) rfl rfl rfl rfl (by simp only [List.map_cons, List.map_nil, cellsA]; rfl) ?_)
      intro g109
      refine awt_h (hm := _) rfl (wt_none rfl) ?sub rfl (st_app_o T0 rfl rfl rfl rfl rfl rfl rfl rfl rfl (by solve | repeat' constructor) (by solve | repeat' constructor) rfl rfl hn1 (by omega) ?_)
      case sub => exact (by solve | repeat' constructor)
      intro a105 c105 p105
      refine awt_po rfl (wt_none rfl) (pv_fa T0 rfl rfl rfl (by simp; rfl)) rfl rfl ?_
      refine awt_s (md := fun _ => True) rfl (wt_none rfl) (st_app T0 rfl rfl rfl rfl rfl rfl rfl rfl rfl (by solve | repeat' constructor) (by solve | repeat' constructor) rfl rfl hn3 (by omega) (fun _ _ => trivial) ?_)
      intro a110 c110 p110
      refine awe_s (md := fun _ => True) rfl (wt_none rfl) (st_store T0 rfl rfl rfl rfl rfl (by simp only [cellsA]; rfl) rfl rfl rfl (by solve | repeat' constructor) (by solve | repeat' constructor) trivial ?_)
      first
        | refine awe_p rfl (wt_none rfl) (pv_fa T0 rfl rfl rfl (by simp; rfl)) rfl rfl ?_
        | refine awe_p rfl (wt_none rfl) (pv_fa_elt T0 rfl rfl rfl (by simp; rfl)) rfl rfl ?_
        | refine awe_p rfl (wt_none rfl) (pv_fa_rp T0 rfl rfl rfl (by simp; rfl)) rfl rfl ?_
      refine awe_s (md := fun _ => True) rfl (wt_none rfl) (st_store T0 rfl rfl rfl rfl rfl (by simp only [cellsA]; rfl) rfl rfl rfl (by solve | repeat' constructor) (by solve | repeat' constructor) trivial ?_)
      refine awe_end ?_
      exact cut_n ⟨_, _, _, _, rfl, rfl⟩ (by first | ((repeat' (first | exact True.intro | refine ⟨rfl, ?_⟩)); all_goals fail) | fail) (by solve | repeat' constructor)
  · skip
    refine awt_h (hm := []) rfl (wt_none rfl) (by solve | repeat' constructor) rfl (st_bsl T0 rfl rfl rfl rfl rfl (by solve | repeat' constructor) rfl rfl rfl rfl (by simp only [List.map_cons, List.map_nil, cellsA]; rfl) ?_)
    intro g109
    refine awt_h (hm := []) rfl (wt_none rfl) (by solve | repeat' constructor) rfl (st_bsl T0 rfl rfl rfl rfl rfl (by solve | repeat' constructor) rfl rfl rfl rfl (by simp only [List.map_cons, List.map_nil, cellsA]; rfl) ?_)
    intro g104
    refine awt_h (hm := _) rfl (wt_none rfl) ?sub rfl (st_app_o T0 rfl rfl rfl rfl rfl rfl rfl rfl rfl (by solve | repeat' constructor) (by solve | repeat' constructor) rfl rfl hn1 (by omega) ?_)
    case sub => exact (by solve | repeat' constructor)
    intro a105 c105 p105
    refine awt_po rfl (wt_none rfl) (pv_fa T0 rfl rfl rfl (by simp; rfl)) rfl rfl ?_
    refine awt_s (md := fun _ => True) rfl (wt_none rfl) (st_app T0 rfl rfl rfl rfl rfl rfl rfl rfl rfl (by solve | repeat' constructor) (by solve | repeat' constructor) rfl rfl hn3 (by omega) (fun _ _ => trivial) ?_)
    intro a110 c110 p110
    refine awe_s (md := fun _ => True) rfl (wt_none rfl) (st_store T0 rfl rfl rfl rfl rfl (by simp only [cellsA]; rfl) rfl rfl rfl (by solve | repeat' constructor) (by solve | repeat' constructor) trivial ?_)
    first
      | refine awe_p rfl (wt_none rfl) (pv_fa T0 rfl rfl rfl (by simp; rfl)) rfl rfl ?_
      | refine awe_p rfl (wt_none rfl) (pv_fa_elt T0 rfl rfl rfl (by simp; rfl)) rfl rfl ?_
      | refine awe_p rfl (wt_none rfl) (pv_fa_rp T0 rfl rfl rfl (by simp; rfl)) rfl rfl ?_
    refine awe_s (md := fun _ => True) rfl (wt_none rfl) (st_store T0 rfl rfl rfl rfl rfl (by simp only [cellsA]; rfl) rfl rfl rfl (by solve | repeat' constructor) (by solve | repeat' constructor) trivial ?_)
    refine awe_end ?_
    exact cut_n ⟨_, _, _, _, rfl, rfl⟩ (by first | ((repeat' (first | exact True.intro | refine ⟨rfl, ?_⟩)); all_goals fail) | fail) (by solve | repeat' constructor)
theorem pr_19 (k1 : i < t.rates.length) (k2 : i < o.rates.length) (hi : i ≤ 1000) (hn2 : r2.length = i) (hn4 : r4.length = i) {ops : Array Oper} (h : regF Try.f10 19 = some ops) :
    AWP Try.prog Try.f10.ntmps none (.region 19 ops true) (cutQ (fun s h => ∃ b1 d1 b2 d2, s = prS g4 g9 g10 g12 g13 n i ∧ h = prH b t o g4 g9 g10 g12 g13 (i + 1) a c b1 d1 a2 c2 b2 d2 r1 (r2 ++ [intRow (max (t.rates.getD i 0) (o.rates.getD i 0))]) r3 (r4 ++ [intRow (t.rates.getD i 0)]) (i + 1)))
      (prS g4 g9 g10 g12 g13 n i) (prH b t o g4 g9 g10 g12 g13 (i + 1) a c a' c' a2 c2 a3 c3 r1 r2 r3 r4 i) := by
  cases h
  refine awp_treeN T0 [(0, 0), (1, 1), (2, 0), (3, 1), (4, 0), (5, 0), (6, 1), (7, 0), (8, 1), (9, 0), (10, 0), (11, 1), (12, 0), (15, 0), (16, 1), (17, 0), (18, 1), (19, 0), (20, 0), (21, 1), (13, 2), (14, 2), (24, 0), (22, 2), (23, 3), (25, 3), (26, 0), (27, 3)] (.op 0 0 (.op 1 1 (.op 2 0 (.op 3 1 (.op 4 0 (.op 5 0 (.op 6 1 (.op 7 0 (.op 8 1 (.op 9 0 (.op 10 0 (.op 11 1 (.op 12 0 (.op 15 0 (.op 16 1 (.op 17 0 (.op 18 1 (.op 19 0 (.op 20 0 (.op 21 1 (.fork 13 (.fork 14 (.op 24 0 (.op 22 2 (.op 23 3 (.op 25 3 (.op 26 0 (.op 27 3 .stop)))))) 22 (.op 14 2 (.op 24 0 (.op 23 3 (.op 25 3 (.op 26 0 (.op 27 3 .stop))))))) 22 (.op 13 2 (.op 14 2 (.op 24 0 (.op 23 3 (.op 25 3 (.op 26 0 (.op 27 3 .stop)))))))))))))))))))))))))))) [.cl g9 _ _, .cl g10 _ _, .cl g12 _ _, .cl g13 _ _] rfl (by kernel_rfl) (by solve | repeat' constructor) ?_
  refine awt_po rfl (wt_none rfl) (pv_fa T0 rfl rfl rfl (by simp; rfl)) rfl rfl ?_
  refine awt_lo rfl (wt_none rfl) (lv_cl1 T0 rfl rfl rfl (by solve | repeat' constructor) (by first | rfl | assumption)) rfl rfl rfl ?_
  refine awt_po rfl (wt_none rfl) (pv_fa T0 rfl rfl rfl (by simp; rfl)) rfl rfl ?_
  refine awt_lo rfl (wt_none rfl) (lv_cl1 T0 rfl rfl rfl (by solve | repeat' constructor) (by first | rfl | assumption)) rfl rfl rfl ?_
  refine awt_po rfl (wt_none rfl) (pv_move rfl rfl) rfl rfl ?_
  refine awt_po rfl (wt_none rfl) (pv_ix_t T0 rfl rfl rfl rfl (by omega) (by first | exact Int.toNat_natCast _ | rfl)) rfl rfl ?_
  refine awt_lo rfl (wt_none rfl) (lv_elt_sc T0 rfl rfl rfl rfl) rfl rfl rfl ?_
  refine awt_po rfl (wt_none rfl) (pv_fa T0 rfl rfl rfl (by simp; rfl)) rfl rfl ?_
  refine awt_lo rfl (wt_none rfl) (lv_cl1 T0 rfl rfl rfl (by solve | repeat' constructor) (by first | rfl | assumption)) rfl rfl rfl ?_
  refine awt_po rfl (wt_none rfl) (pv_move rfl rfl) rfl rfl ?_
  refine awt_po rfl (wt_none rfl) (pv_ix_t T0 rfl rfl rfl rfl (by omega) (by first | exact Int.toNat_natCast _ | rfl)) rfl rfl ?_
  refine awt_lo rfl (wt_none rfl) (lv_elt_sc T0 rfl rfl rfl rfl) rfl rfl rfl ?_
  refine awt_po rfl (wt_none rfl) (pv_max2 rfl rfl rfl) rfl rfl ?_
  refine awt_po rfl (wt_none rfl) (pv_fa T0 rfl rfl rfl (by simp; rfl)) rfl rfl ?_
  refine awt_lo rfl (wt_none rfl) (lv_cl1 T0 rfl rfl rfl (by solve | repeat' constructor) (by first | rfl | assumption)) rfl rfl rfl ?_
  refine awt_po rfl (wt_none rfl) (pv_fa T0 rfl rfl rfl (by simp; rfl)) rfl rfl ?_
  refine awt_lo rfl (wt_none rfl) (lv_cl1 T0 rfl rfl rfl (by solve | repeat' constructor) (by first | rfl | assumption)) rfl rfl rfl ?_
  refine awt_po rfl (wt_none rfl) (pv_move rfl rfl) rfl rfl ?_
  refine awt_po rfl (wt_none rfl) (pv_ix_t T0 rfl rfl rfl rfl (by omega) (by first | exact Int.toNat_natCast _ | rfl)) rfl rfl ?_
  refine awt_lo rfl (wt_none rfl) (lv_elt_sc T0 rfl rfl rfl rfl) rfl rfl rfl ?_
  refine awt_fork ?_ ?_
  · skip
    refine awt_h (hm := []) rfl (wt_none rfl) (by solve | repeat' constructor) rfl (st_bsl T0 rfl rfl rfl rfl rfl (by solve | repeat' constructor) rfl rfl rfl rfl (by simp only [List.map_cons, List.map_nil, cellsA]; rfl) ?_)
    intro g126
    refine awt_fork ?_ ?_
    · skip
      refine awt_h (hm := _) rfl (wt_none rfl) ?sub rfl (st_app_o T0 rfl rfl rfl rfl rfl rfl rfl rfl rfl (by solve | repeat' constructor) (by solve | repeat' constructor) rfl rfl hn2 (by omega) ?_)
      case sub => exact (by solve | repeat' constructor)
      intro a127 c127 p127
      refine awt_po rfl (wt_none rfl) (pv_fa T0 rfl rfl rfl (by simp; rfl)) rfl rfl ?_
      refine awt_h (hm := []) rfl (wt_none rfl) (by solve | repeat' constructor) rfl (st_bsl T0 rfl rfl rfl rfl rfl (by solve | repeat' constructor) rfl rfl rfl rfl (by simp only [List.map_cons, List.map_nil, cellsA]; rfl) ?_)
      intro g135
      refine awt_s (md := fun _ => True) rfl (wt_none rfl) (st_app T0 rfl rfl rfl rfl rfl rfl rfl rfl rfl (by solve | repeat' constructor) (by solve | repeat' constructor) rfl rfl hn4 (by omega) (fun _ _ => trivial) ?_)
      intro a136 c136 p136
      refine awe_s (md := fun _ => True) rfl (wt_none rfl) (st_store T0 rfl rfl rfl rfl rfl (by simp only [cellsA]; rfl) rfl rfl rfl (by solve | repeat' constructor) (by solve | repeat' constructor) trivial ?_)
      first
        | refine awe_p rfl (wt_none rfl) (pv_fa T0 rfl rfl rfl (by simp; rfl)) rfl rfl ?_
        | refine awe_p rfl (wt_none rfl) (pv_fa_elt T0 rfl rfl rfl (by simp; rfl)) rfl rfl ?_
        | refine awe_p rfl (wt_none rfl) (pv_fa_rp T0 rfl rfl rfl (by simp; rfl)) rfl rfl ?_
      refine awe_s (md := fun _ => True) rfl (wt_none rfl) (st_store T0 rfl rfl rfl rfl rfl (by simp only [cellsA]; rfl) rfl rfl rfl (by solve | repeat' constructor) (by solve | repeat' constructor) trivial ?_)
      refine awe_end ?_
      exact cut_n ⟨_, _, _, _, rfl, rfl⟩ (by first | ((repeat' (first | exact True.intro | refine ⟨rfl, ?_⟩)); all_goals fail) | fail) (by solve | repeat' constructor)
    · skip
      refine awt_h (hm := []) rfl (wt_none rfl) (by solve | repeat' constructor) rfl (st_bsl T0 rfl rfl rfl rfl rfl (by solve | repeat' constructor) rfl rfl rfl rfl (by simp only [List.map_cons, List.map_nil, cellsA]; rfl) ?_)
      intro g135
      refine awt_h (hm := _) rfl (wt_none rfl) ?sub rfl (st_app_o T0 rfl rfl rfl rfl rfl rfl rfl rfl rfl (by solve | repeat' constructor) (by solve | repeat' constructor) rfl rfl hn2 (by omega) ?_)
      case sub => exact (by solve | repeat' constructor)
      intro a127 c127 p127
      refine awt_po rfl (wt_none rfl) (pv_fa T0 rfl rfl rfl (by simp; rfl)) rfl rfl ?_
      refine awt_s (md := fun _ => True) rfl (wt_none rfl) (st_app T0 rfl rfl rfl rfl rfl rfl rfl rfl rfl (by solve | repeat' constructor) (by solve | repeat' constructor) rfl rfl hn4 (by omega) (fun _ _ => trivial) ?_)
      intro a136 c136 p136
      refine awe_s (md := fun _ => True) rfl (wt_none rfl) (st_store T0 rfl rfl rfl rfl rfl (by simp only [cellsA]; rfl) rfl rfl rfl (by solve | repeat' constructor) (by solve | repeat' constructor) trivial ?_)
      first
        | refine awe_p rfl (wt_none rfl) (pv_fa T0 rfl rfl rfl (by simp; rfl)) rfl rfl ?_
        | refine awe_p rfl (wt_none rfl) (pv_fa_elt T0 rfl rfl rfl (by simp; rfl)) rfl rfl ?_
        | refine awe_p rfl (wt_none rfl) (pv_fa_rp T0 rfl rfl rfl (by simp; rfl)) rfl rfl ?_
      refine awe_s (md := fun _ => True) rfl (wt_none rfl) (st_store T0 rfl rfl rfl rfl rfl (by simp only [cellsA]; rfl) rfl rfl rfl (by solve | repeat' constructor) (by solve | repeat' constructor) trivial ?_)
      refine awe_end ?_
      exact cut_n ⟨_, _, _, _, rfl, rfl⟩ (by first | ((repeat' (first | exact True.intro | refine ⟨rfl, ?_⟩)); all_goals fail) | fail) (by solve | repeat' constructor)
  · skip
    refine awt_h (hm := []) rfl (wt_none rfl) (by solve | repeat' constructor) rfl (st_bsl T0 rfl rfl rfl rfl rfl (by solve | repeat' constructor) rfl rfl rfl rfl (by simp only [List.map_cons, List.map_nil, cellsA]; rfl) ?_)
    intro g135
    refine awt_h (hm := []) rfl (wt_none rfl) (by solve | repeat' constructor) rfl (st_bsl T0 rfl rfl rfl rfl rfl (by solve | repeat' constructor) rfl rfl rfl rfl (by simp only [List.map_cons, List.map_nil, cellsA]; rfl) ?_)
    intro g126
    refine awt_h (hm := _) rfl (wt_none rfl) ?sub rfl (st_app_o T0 rfl rfl rfl rfl rfl rfl rfl rfl rfl (by solve | repeat' constructor) (by solve | repeat' constructor) rfl rfl hn2 (by omega) ?_)
    case sub => exact (by solve | repeat' constructor)
    intro a127 c127 p127
    refine awt_po rfl (wt_none rfl) (pv_fa T0 rfl rfl rfl (by simp; rfl)) rfl rfl ?_
    refine awt_s (md := fun _ => True) rfl (wt_none rfl) (st_app T0 rfl rfl rfl rfl rfl rfl rfl rfl rfl (by solve | repeat' constructor) (by solve | repeat' constructor) rfl rfl hn4 (by omega) (fun _ _ => trivial) ?_)
    intro a136 c136 p136
    refine awe_s (md := fun _ => True) rfl (wt_none rfl) (st_store T0 rfl rfl rfl rfl rfl (by simp only [cellsA]; rfl) rfl rfl rfl (by solve | repeat' constructor) (by solve | repeat' constructor) trivial ?_)
    first
      | refine awe_p rfl (wt_none rfl) (pv_fa T0 rfl rfl rfl (by simp; rfl)) rfl rfl ?_
      | refine awe_p rfl (wt_none rfl) (pv_fa_elt T0 rfl rfl rfl (by simp; rfl)) rfl rfl ?_
      | refine awe_p rfl (wt_none rfl) (pv_fa_rp T0 rfl rfl rfl (by simp; rfl)) rfl rfl ?_
    refine awe_s (md := fun _ => True) rfl (wt_none rfl) (st_store T0 rfl rfl rfl rfl rfl (by simp only [cellsA]; rfl) rfl rfl rfl (by solve | repeat' constructor) (by solve | repeat' constructor) trivial ?_)
    refine awe_end ?_
    exact cut_n ⟨_, _, _, _, rfl, rfl⟩ (by first | ((repeat' (first | exact True.intro | refine ⟨rfl, ?_⟩)); all_goals fail) | fail) (by solve | repeat' constructor)
end
abbrev pr28s (g4 n q : Nat) (D C X Z : List (List Int)) : Slots := [(4, .v (.pointer (some ⟨g4, 0, none⟩))), (11, intA n), (18, .t (rowsT false D)), (19, .t (rowsT false C)), (21, .t (rowsT false X)), (25, .t (rowsT false Z)), (27, intA q)]
abbrev pr28h (g4 : Nat) (b : BankD) : List Ent := [.cl g4 25 [intA b.stocks, .t (daysT false b.days), .t (loansT false b.loans)]]
theorem pr_28 {b : BankD} {D C X Z : List (List Int)} {g4 n q : Nat} (k1 : q < D.length) (k2 : q < C.length) (k3 : q < X.length) (k4 : q < Z.length) (k5 : n < (C.getD q []).length) (k6 : n < (Z.getD q []).length)
    (e1 : decide (((D.getD q []).length : Int) ≠ (b.days.length : Int)) = false) (e2 : decide (((X.getD q []).length : Int) ≠ (b.days.length : Int)) = false) (e3 : decide (((C.getD q []).length : Int) ≠ (b.days.length : Int)) = false) (e4 : decide (((Z.getD q []).length : Int) ≠ (b.days.length : Int)) = false)
    (e5 : decide ((C.getD q []).getD n 0 < (Z.getD q []).getD n 0) = false) {ops : Array Oper} (h : regF Try.f10 28 = some ops) :
    AWP Try.prog Try.f10.ntmps none (.region 28 ops true) (cutQ (fun s h => s = (269, boolA false) :: pr28s g4 n q D C X Z ∧ h = pr28h g4 b)) (pr28s g4 n q D C X Z) (pr28h g4 b) := by
  cases h
  refine awp_treeN T0 [(0, 0), (1, 0), (2, 0), (3, 1), (4, 0), (5, 0), (6, 1), (7, 0), (8, 0), (9, 0), (10, 0), (11, 0), (12, 0), (13, 1), (14, 0), (15, 0), (16, 1), (17, 0), (18, 0), (19, 0), (20, 0), (21, 0), (22, 0), (23, 0), (24, 1), (25, 0), (26, 0), (27, 1), (28, 0), (29, 0), (30, 0), (31, 0), (32, 0), (33, 0), (34, 0), (35, 1), (36, 0), (37, 0), (38, 1), (39, 0), (40, 0), (41, 0), (42, 0), (43, 0), (44, 0), (45, 0), (46, 1), (47, 0), (48, 0), (49, 1), (50, 0), (51, 0), (52, 0), (53, 1), (54, 0), (55, 0), (56, 1), (57, 0), (58, 0)] (.op 0 0 (.op 1 0 (.op 2 0 (.op 3 1 (.op 4 0 (.op 5 0 (.op 6 1 (.op 7 0 (.op 8 0 (.op 9 0 (.op 10 0 (.op 11 0 (.op 12 0 (.op 13 1 (.op 14 0 (.op 15 0 (.op 16 1 (.op 17 0 (.op 18 0 (.op 19 0 (.op 20 0 (.op 21 0 (.op 22 0 (.op 23 0 (.op 24 1 (.op 25 0 (.op 26 0 (.op 27 1 (.op 28 0 (.op 29 0 (.op 30 0 (.op 31 0 (.op 32 0 (.op 33 0 (.op 34 0 (.op 35 1 (.op 36 0 (.op 37 0 (.op 38 1 (.op 39 0 (.op 40 0 (.op 41 0 (.op 42 0 (.op 43 0 (.op 44 0 (.op 45 0 (.op 46 1 (.op 47 0 (.op 48 0 (.op 49 1 (.op 50 0 (.op 51 0 (.op 52 0 (.op 53 1 (.op 54 0 (.op 55 0 (.op 56 1 (.op 57 0 (.op 58 0 .stop))))))))))))))))))))))))))))))))))))))))))))))))))))))))))) _ rfl (by kernel_rfl) (SubH.refl _) ?_
  refine awt_po rfl (wt_none rfl) (pv_move rfl rfl) rfl rfl ?_
  refine awt_po rfl (wt_none rfl) (pv_move rfl rfl) rfl rfl ?_
  refine awt_po rfl (wt_none rfl) (pv_ix_t T0 rfl rfl rfl rfl (by omega) (by first | exact Int.toNat_natCast _ | rfl)) rfl rfl ?_
  refine awt_lo rfl (wt_none rfl) (lv_elt_sl T0 rfl rfl rfl rfl) rfl rfl rfl ?_
  refine awt_po rfl (wt_none rfl) (pv_len_t T0 rfl rfl rfl) rfl rfl ?_
  refine awt_po rfl (wt_none rfl) (pv_fa T0 rfl rfl rfl (by simp; rfl)) rfl rfl ?_
  refine awt_lo rfl (wt_none rfl) (lv_cl1 T0 rfl rfl rfl (by solve | repeat' constructor) (by first | rfl | assumption)) rfl rfl rfl ?_
  refine awt_po rfl (wt_none rfl) (pv_len_t T0 rfl rfl rfl) rfl rfl ?_
  refine awt_po rfl (wt_none rfl) (pv_neq rfl rfl rfl) rfl rfl ?_
  refine awt_po rfl (wt_none rfl) (pv_move rfl rfl) rfl rfl ?_
  refine awt_po rfl (wt_some' rfl rfl rfl rfl (by first | rfl | assumption | exact dT (by omega) | exact dF (by omega))) (pv_move rfl rfl) rfl rfl ?_
  refine awt_po rfl (wt_some' rfl rfl rfl rfl (by first | rfl | assumption | exact dT (by omega) | exact dF (by omega))) (pv_move rfl rfl) rfl rfl ?_
  refine awt_po rfl (wt_some' rfl rfl rfl rfl (by first | rfl | assumption | exact dT (by omega) | exact dF (by omega))) (pv_ix_t T0 rfl rfl rfl rfl (by omega) (by first | exact Int.toNat_natCast _ | rfl)) rfl rfl ?_
  refine awt_lo rfl (wt_some' rfl rfl rfl rfl (by first | rfl | assumption | exact dT (by omega) | exact dF (by omega))) (lv_elt_sl T0 rfl rfl rfl rfl) rfl rfl rfl ?_
  refine awt_po rfl (wt_some' rfl rfl rfl rfl (by first | rfl | assumption | exact dT (by omega) | exact dF (by omega))) (pv_len_t T0 rfl rfl rfl) rfl rfl ?_
  refine awt_po rfl (wt_some' rfl rfl rfl rfl (by first | rfl | assumption | exact dT (by omega) | exact dF (by omega))) (pv_fa T0 rfl rfl rfl (by simp; rfl)) rfl rfl ?_
  refine awt_lo rfl (wt_some' rfl rfl rfl rfl (by first | rfl | assumption | exact dT (by omega) | exact dF (by omega))) (lv_cl1 T0 rfl rfl rfl (by solve | repeat' constructor) (by first | rfl | assumption)) rfl rfl rfl ?_
  refine awt_po rfl (wt_some' rfl rfl rfl rfl (by first | rfl | assumption | exact dT (by omega) | exact dF (by omega))) (pv_len_t T0 rfl rfl rfl) rfl rfl ?_
  refine awt_po rfl (wt_some' rfl rfl rfl rfl (by first | rfl | assumption | exact dT (by omega) | exact dF (by omega))) (pv_neq rfl rfl rfl) rfl rfl ?_
  refine awt_po rfl (wt_none rfl) (pv_pick_f rfl rfl (by first | rfl | assumption | exact dT (by omega) | exact dF (by omega)) rfl) rfl rfl ?_
  refine awt_po rfl (wt_none rfl) (pv_move rfl rfl) rfl rfl ?_
  refine awt_po rfl (wt_some' rfl rfl rfl rfl (by first | rfl | assumption | exact dT (by omega) | exact dF (by omega))) (pv_move rfl rfl) rfl rfl ?_
  refine awt_po rfl (wt_some' rfl rfl rfl rfl (by first | rfl | assumption | exact dT (by omega) | exact dF (by omega))) (pv_move rfl rfl) rfl rfl ?_
  refine awt_po rfl (wt_some' rfl rfl rfl rfl (by first | rfl | assumption | exact dT (by omega) | exact dF (by omega))) (pv_ix_t T0 rfl rfl rfl rfl (by omega) (by first | exact Int.toNat_natCast _ | rfl)) rfl rfl ?_
  refine awt_lo rfl (wt_some' rfl rfl rfl rfl (by first | rfl | assumption | exact dT (by omega) | exact dF (by omega))) (lv_elt_sl T0 rfl rfl rfl rfl) rfl rfl rfl ?_
  refine awt_po rfl (wt_some' rfl rfl rfl rfl (by first | rfl | assumption | exact dT (by omega) | exact dF (by omega))) (pv_len_t T0 rfl rfl rfl) rfl rfl ?_
  refine awt_po rfl (wt_some' rfl rfl rfl rfl (by first | rfl | assumption | exact dT (by omega) | exact dF (by omega))) (pv_fa T0 rfl rfl rfl (by simp; rfl)) rfl rfl ?_
  refine awt_lo rfl (wt_some' rfl rfl rfl rfl (by first | rfl | assumption | exact dT (by omega) | exact dF (by omega))) (lv_cl1 T0 rfl rfl rfl (by solve | repeat' constructor) (by first | rfl | assumption)) rfl rfl rfl ?_
  refine awt_po rfl (wt_some' rfl rfl rfl rfl (by first | rfl | assumption | exact dT (by omega) | exact dF (by omega))) (pv_len_t T0 rfl rfl rfl) rfl rfl ?_
  refine awt_po rfl (wt_some' rfl rfl rfl rfl (by first | rfl | assumption | exact dT (by omega) | exact dF (by omega))) (pv_neq rfl rfl rfl) rfl rfl ?_
  refine awt_po rfl (wt_none rfl) (pv_pick_f rfl rfl (by first | rfl | assumption | exact dT (by omega) | exact dF (by omega)) rfl) rfl rfl ?_
  refine awt_po rfl (wt_none rfl) (pv_move rfl rfl) rfl rfl ?_
  refine awt_po rfl (wt_some' rfl rfl rfl rfl (by first | rfl | assumption | exact dT (by omega) | exact dF (by omega))) (pv_move rfl rfl) rfl rfl ?_
  refine awt_po rfl (wt_some' rfl rfl rfl rfl (by first | rfl | assumption | exact dT (by omega) | exact dF (by omega))) (pv_move rfl rfl) rfl rfl ?_
  refine awt_po rfl (wt_some' rfl rfl rfl rfl (by first | rfl | assumption | exact dT (by omega) | exact dF (by omega))) (pv_ix_t T0 rfl rfl rfl rfl (by omega) (by first | exact Int.toNat_natCast _ | rfl)) rfl rfl ?_
  refine awt_lo rfl (wt_some' rfl rfl rfl rfl (by first | rfl | assumption | exact dT (by omega) | exact dF (by omega))) (lv_elt_sl T0 rfl rfl rfl rfl) rfl rfl rfl ?_
  refine awt_po rfl (wt_some' rfl rfl rfl rfl (by first | rfl | assumption | exact dT (by omega) | exact dF (by omega))) (pv_len_t T0 rfl rfl rfl) rfl rfl ?_
  refine awt_po rfl (wt_some' rfl rfl rfl rfl (by first | rfl | assumption | exact dT (by omega) | exact dF (by omega))) (pv_fa T0 rfl rfl rfl (by simp; rfl)) rfl rfl ?_
  refine awt_lo rfl (wt_some' rfl rfl rfl rfl (by first | rfl | assumption | exact dT (by omega) | exact dF (by omega))) (lv_cl1 T0 rfl rfl rfl (by solve | repeat' constructor) (by first | rfl | assumption)) rfl rfl rfl ?_
  refine awt_po rfl (wt_some' rfl rfl rfl rfl (by first | rfl | assumption | exact dT (by omega) | exact dF (by omega))) (pv_len_t T0 rfl rfl rfl) rfl rfl ?_
  refine awt_po rfl (wt_some' rfl rfl rfl rfl (by first | rfl | assumption | exact dT (by omega) | exact dF (by omega))) (pv_neq rfl rfl rfl) rfl rfl ?_
  refine awt_po rfl (wt_none rfl) (pv_pick_f rfl rfl (by first | rfl | assumption | exact dT (by omega) | exact dF (by omega)) rfl) rfl rfl ?_
  refine awt_po rfl (wt_none rfl) (pv_move rfl rfl) rfl rfl ?_
  refine awt_po rfl (wt_some' rfl rfl rfl rfl (by first | rfl | assumption | exact dT (by omega) | exact dF (by omega))) (pv_move rfl rfl) rfl rfl ?_
  refine awt_po rfl (wt_some' rfl rfl rfl rfl (by first | rfl | assumption | exact dT (by omega) | exact dF (by omega))) (pv_move rfl rfl) rfl rfl ?_
  refine awt_po rfl (wt_some' rfl rfl rfl rfl (by first | rfl | assumption | exact dT (by omega) | exact dF (by omega))) (pv_ix_t T0 rfl rfl rfl rfl (by omega) (by first | exact Int.toNat_natCast _ | rfl)) rfl rfl ?_
  refine awt_lo rfl (wt_some' rfl rfl rfl rfl (by first | rfl | assumption | exact dT (by omega) | exact dF (by omega))) (lv_elt_sl T0 rfl rfl rfl rfl) rfl rfl rfl ?_
  refine awt_po rfl (wt_some' rfl rfl rfl rfl (by first | rfl | assumption | exact dT (by omega) | exact dF (by omega))) (pv_move rfl rfl) rfl rfl ?_
  refine awt_po rfl (wt_some' rfl rfl rfl rfl (by first | rfl | assumption | exact dT (by omega) | exact dF (by omega))) (pv_ix_t T0 rfl rfl rfl rfl (by omega) (by first | exact Int.toNat_natCast _ | rfl)) rfl rfl ?_
  refine awt_lo rfl (wt_some' rfl rfl rfl rfl (by first | rfl | assumption | exact dT (by omega) | exact dF (by omega))) (lv_elt_sc T0 rfl rfl rfl rfl) rfl rfl rfl ?_
  refine awt_po rfl (wt_some' rfl rfl rfl rfl (by first | rfl | assumption | exact dT (by omega) | exact dF (by omega))) (pv_move rfl rfl) rfl rfl ?_
  refine awt_po rfl (wt_some' rfl rfl rfl rfl (by first | rfl | assumption | exact dT (by omega) | exact dF (by omega))) (pv_move rfl rfl) rfl rfl ?_
  refine awt_po rfl (wt_some' rfl rfl rfl rfl (by first | rfl | assumption | exact dT (by omega) | exact dF (by omega))) (pv_ix_t T0 rfl rfl rfl rfl (by omega) (by first | exact Int.toNat_natCast _ | rfl)) rfl rfl ?_
  refine awt_lo rfl (wt_some' rfl rfl rfl rfl (by first | rfl | assumption | exact dT (by omega) | exact dF (by omega))) (lv_elt_sl T0 rfl rfl rfl rfl) rfl rfl rfl ?_
  refine awt_po rfl (wt_some' rfl rfl rfl rfl (by first | rfl | assumption | exact dT (by omega) | exact dF (by omega))) (pv_move rfl rfl) rfl rfl ?_
  refine awt_po rfl (wt_some' rfl rfl rfl rfl (by first | rfl | assumption | exact dT (by omega) | exact dF (by omega))) (pv_ix_t T0 rfl rfl rfl rfl (by omega) (by first | exact Int.toNat_natCast _ | rfl)) rfl rfl ?_
  refine awt_lo rfl (wt_some' rfl rfl rfl rfl (by first | rfl | assumption | exact dT (by omega) | exact dF (by omega))) (lv_elt_sc T0 rfl rfl rfl rfl) rfl rfl rfl ?_
  refine awt_po rfl (wt_some' rfl rfl rfl rfl (by first | rfl | assumption | exact dT (by omega) | exact dF (by omega))) (pv_gtr rfl rfl rfl) rfl rfl ?_
  refine awt_po rfl (wt_none rfl) (pv_pick_f rfl rfl (by first | rfl | assumption | exact dT (by omega) | exact dF (by omega)) rfl) rfl rfl ?_
  refine awt_end ?_
  rw [e5]
  exact cut_n ⟨rfl, rfl⟩ (by first | ((repeat' (first | exact True.intro | refine ⟨rfl, ?_⟩)); all_goals fail) | fail) (by solve | repeat' constructor)
theorem pr_33 {b : BankD} {D C X Z : List (List Int)} {g4 n q k : Nat} (k1 : q < D.length) (k3 : q < X.length) (k5 : k < (D.getD q []).length) (k6 : k < (X.getD q []).length)
    (e5 : decide ((X.getD q []).getD k 0 < (D.getD q []).getD k 0) = false) {ops : Array Oper} (h : regF Try.f10 33 = some ops) :
    AWP Try.prog Try.f10.ntmps none (.region 33 ops true) (cutQ (fun s h => s = (291, boolA false) :: (28, intA k) :: pr28s g4 n q D C X Z ∧ h = pr28h g4 b)) ((28, intA k) :: pr28s g4 n q D C X Z) (pr28h g4 b) := by
  cases h
  refine awp_tree T0 [(0, 0), (1, 0), (2, 0), (3, 1), (4, 0), (5, 0), (6, 1), (7, 0), (8, 0), (9, 0), (10, 1), (11, 0), (12, 0), (13, 1), (14, 0)] (.op 0 0 (.op 1 0 (.op 2 0 (.op 3 1 (.op 4 0 (.op 5 0 (.op 6 1 (.op 7 0 (.op 8 0 (.op 9 0 (.op 10 1 (.op 11 0 (.op 12 0 (.op 13 1 (.op 14 0 .stop))))))))))))))) _ rfl (by kernel_rfl) (SubH.refl _) ?_
  refine awt_po rfl (wt_none rfl) (pv_move rfl rfl) rfl rfl ?_
  refine awt_po rfl (wt_none rfl) (pv_move rfl rfl) rfl rfl ?_
  refine awt_po rfl (wt_none rfl) (pv_ix_t T0 rfl rfl rfl rfl (by omega) (by first | exact Int.toNat_natCast _ | rfl)) rfl rfl ?_
  refine awt_lo rfl (wt_none rfl) (lv_elt_sl T0 rfl rfl rfl rfl) rfl rfl rfl ?_
  refine awt_po rfl (wt_none rfl) (pv_move rfl rfl) rfl rfl ?_
  refine awt_po rfl (wt_none rfl) (pv_ix_t T0 rfl rfl rfl rfl (by omega) (by first | exact Int.toNat_natCast _ | rfl)) rfl rfl ?_
  refine awt_lo rfl (wt_none rfl) (lv_elt_sc T0 rfl rfl rfl rfl) rfl rfl rfl ?_
  refine awt_po rfl (wt_none rfl) (pv_move rfl rfl) rfl rfl ?_
  refine awt_po rfl (wt_none rfl) (pv_move rfl rfl) rfl rfl ?_
  refine awt_po rfl (wt_none rfl) (pv_ix_t T0 rfl rfl rfl rfl (by omega) (by first | exact Int.toNat_natCast _ | rfl)) rfl rfl ?_
  refine awt_lo rfl (wt_none rfl) (lv_elt_sl T0 rfl rfl rfl rfl) rfl rfl rfl ?_
  refine awt_po rfl (wt_none rfl) (pv_move rfl rfl) rfl rfl ?_
  refine awt_po rfl (wt_none rfl) (pv_ix_t T0 rfl rfl rfl rfl (by omega) (by first | exact Int.toNat_natCast _ | rfl)) rfl rfl ?_
  refine awt_lo rfl (wt_none rfl) (lv_elt_sc T0 rfl rfl rfl rfl) rfl rfl rfl ?_
  refine awt_po rfl (wt_none rfl) (pv_lss rfl rfl rfl) rfl rfl ?_
  refine awt_end ?_
  rw [e5]
  exact cut_n ⟨rfl, rfl⟩ (by first | ((repeat' (first | exact True.intro | refine ⟨rfl, ?_⟩)); all_goals fail) | fail) (by solve | repeat' constructor)
end Go.Proofs.Ytfiacjdkdjkiiaa
