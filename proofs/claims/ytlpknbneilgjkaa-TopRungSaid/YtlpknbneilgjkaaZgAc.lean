/- The law TopRung (Try.func5): walk. -/
import Derived.Test.YtlpknbneilgjkaaZgAa
import Derived.Test.YtlpknbneilgjkaaZgTc
import Derived.Test.YtlpknbneilgjkaaZgCGIa
import Derived.Test.YtlpknbneilgjkaaZgRRb
import Derived.Test.YtlpknbneilgjkaaZgGTy
import Derived.Test.YtlpknbneilgjkaaZgRFr
import Derived.Test.YtlpknbneilgjkaaZgCMsp
namespace Go.Proofs.Ytlpknbneilgjkaa
open Go Go.RowKit Go.Tl
set_option linter.unusedVariables false
set_option linter.unusedSimpArgs false
set_option maxRecDepth 100000
set_option maxHeartbeats 4000000
abbrev ptrV (g : Nat) : Value := .pointer (some ⟨g, 0, none⟩)
attribute [local irreducible] AWP AWL AOp PV LV AWT AWE AWC
theorem alike_of {m x : C.MktD} (cp cc cp' cc' : Bool) (hf : C.faultN m = 0) (hp : C.possB m = true) (h : SameR m x) (hh : x.hou = m.hou) (hx : x.con.length ≤ 1000) : PCall Try.prog 36 [C.mktA cp cc m, C.mktA cp' cc' x] (fun r => r = boolA true) := by
  have hv := C.vmkt hf
  have hlen := hv.len
  have hclen := hv.clen
  have ha := C.asked_yes hf hp
  have he : C.essR m = (C.essL m Prod.fst m.hou.length, C.essL m Prod.snd m.hou.length, 0) := by
    unfold C.essR
    rw [ha]
    rfl
  have l1 := C.ess_len m Prod.fst m.hou.length
  have l2 := C.ess_len m Prod.snd m.hou.length
  have l3 := corn_len m
  exact C.alike_p cp cc cp' cc' m x (by omega) (by omega) (by rw [hh]; omega) hx (by omega) (by omega) (by omega) ha (by rw [h.ask, ha]) he (by rw [h.ess, he]) (K := (C.cornR m).1) (ce := (C.cornR m).2) rfl (by rw [h.cor])
section
variable {g2 g3 g5 g6 g7 g15 k n cc : Nat} {m : C.MktD} {b : R.BookD} {o dl : List Int} {c : R.ConD} {a : Option Addr} {rows : List (List AV)} {e1 e2 e3 e4 e5 : Ent}
theorem ac_3 {ops : Array Oper} (h : regF Try.f5 3 = some ops) :
    AWP Try.prog Try.f5.ntmps none (.region 3 ops true) (cutQ (fun s h => ∃ g5 g6 g7, s = [(5, .v (ptrV g5)), (6, .v (ptrV g6)), (7, .v (ptrV g7)), (2, .v (ptrV g2)), (3, .v (ptrV g3))] ∧ h = [.cl g2 119 [intA m.ex, .t (C.housT false m.hou), .t (C.consT false m.con)], .cl g5 119 [intA m.ex, .t (C.housT false m.hou), .t (C.consT false m.con)], .cl g6 119 [intA m.ex, .t (C.housT false m.hou), .t (C.consT false m.con)], .cl g7 119 [intA m.ex, .t (C.housT false m.hou), .t (C.consT false m.con)], .cl g3 81 [intA b.houses, .t (R.consT false b.cons)]]))
      [(2, .v (ptrV g2)), (3, .v (ptrV g3))] [.cl g2 119 [intA m.ex, .t (C.housT false m.hou), .t (C.consT false m.con)], .cl g3 81 [intA b.houses, .t (R.consT false b.cons)]] := by
  cases h
  refine awp_C T0 (.op 0 1 (.op 1 1 (.op 2 1 (.alt (.op 3 2 (.alt (.op 4 2 (.op 5 2 (.op 6 2 (.op 7 2 (.op 8 2 .stop))))) (.op 5 2 (.op 4 2 (.op 6 2 (.op 7 2 (.op 8 2 .stop))))))) (.alt (.op 4 2 (.alt (.op 3 2 (.op 5 2 (.op 6 2 (.op 7 2 (.op 8 2 .stop))))) (.op 5 2 (.op 3 2 (.op 6 2 (.op 7 2 (.op 8 2 .stop))))))) (.op 5 2 (.alt (.op 3 2 (.op 4 2 (.op 6 2 (.op 7 2 (.op 8 2 .stop))))) (.op 4 2 (.op 3 2 (.op 6 2 (.op 7 2 (.op 8 2 .stop)))))))))))) [.cl g2 _ _] (by kernel_rfl) (by kernel_rfl) (by kernel_rfl) rcA ?_
  refine awc_lo rfl (wt_none rfl) (lv_cla T0 rfl rfl rfl rcA rfl) rfl rfl rfl ?_
  refine awc_lo rfl (wt_none rfl) (lv_cla T0 rfl rfl rfl rcA rfl) rfl rfl rfl ?_
  refine awc_lo rfl (wt_none rfl) (lv_cla T0 rfl rfl rfl rcA rfl) rfl rfl rfl ?_
  refine awc_alt ?_ ?_
  · skip
    refine awc_h (hm := []) rfl (wt_none rfl) ?sub6 rfl (st_alloc T0 rfl rfl rfl rfl scA ?_)
    case sub6 => exact rcA
    intro g5
    refine awc_alt ?_ ?_
    · skip
      refine awc_h (hm := []) rfl (wt_none rfl) ?sub11 rfl (st_alloc T0 rfl rfl rfl rfl scA ?_)
      case sub11 => exact rcA
      intro g6
      refine awc_h (hm := []) rfl (wt_none rfl) ?sub14 rfl (st_alloc T0 rfl rfl rfl rfl scA ?_)
      case sub14 => exact rcA
      intro g7
      refine awc_h (hm := _) rfl (wt_none rfl) ?sub17 rfl (st_store_o T0 rfl rfl rfl rfl rfl (by first | assumption | (simp only [cellsA]; rfl)) rfl rfl rfl rcA rcA ?_)
      case sub17 => exact rcA
      refine awc_h (hm := _) rfl (wt_none rfl) ?sub19 rfl (st_store_o T0 rfl rfl rfl rfl rfl (by first | assumption | (simp only [cellsA]; rfl)) rfl rfl rfl rcA rcA ?_)
      case sub19 => exact rcA
      refine awc_h (hm := _) rfl (wt_none rfl) ?sub21 rfl (st_store_o T0 rfl rfl rfl rfl rfl (by first | assumption | (simp only [cellsA]; rfl)) rfl rfl rfl rcA rcA ?_)
      case sub21 => exact rcA
      refine awc_end ?_
      exact cut_n ⟨_, _, _, rfl, rfl⟩ ssA rcA
    refine awc_h (hm := []) rfl (wt_none rfl) ?sub25 rfl (st_alloc T0 rfl rfl rfl rfl scA ?_)
    case sub25 => exact rcA
    intro g7
    refine awc_h (hm := []) rfl (wt_none rfl) ?sub28 rfl (st_alloc T0 rfl rfl rfl rfl scA ?_)
    case sub28 => exact rcA
    intro g6
    refine awc_h (hm := _) rfl (wt_none rfl) ?sub31 rfl (st_store_o T0 rfl rfl rfl rfl rfl (by first | assumption | (simp only [cellsA]; rfl)) rfl rfl rfl rcA rcA ?_)
    case sub31 => exact rcA
    refine awc_h (hm := _) rfl (wt_none rfl) ?sub33 rfl (st_store_o T0 rfl rfl rfl rfl rfl (by first | assumption | (simp only [cellsA]; rfl)) rfl rfl rfl rcA rcA ?_)
    case sub33 => exact rcA
    refine awc_h (hm := _) rfl (wt_none rfl) ?sub35 rfl (st_store_o T0 rfl rfl rfl rfl rfl (by first | assumption | (simp only [cellsA]; rfl)) rfl rfl rfl rcA rcA ?_)
    case sub35 => exact rcA
    refine awc_end ?_
    exact cut_n ⟨_, _, _, rfl, rfl⟩ ssA rcA
  refine awc_alt ?_ ?_
  · skip
    refine awc_h (hm := []) rfl (wt_none rfl) ?sub41 rfl (st_alloc T0 rfl rfl rfl rfl scA ?_)
    case sub41 => exact rcA
    intro g6
    refine awc_alt ?_ ?_
    · skip
      refine awc_h (hm := []) rfl (wt_none rfl) ?sub46 rfl (st_alloc T0 rfl rfl rfl rfl scA ?_)
      case sub46 => exact rcA
      intro g5
      refine awc_h (hm := []) rfl (wt_none rfl) ?sub49 rfl (st_alloc T0 rfl rfl rfl rfl scA ?_)
      case sub49 => exact rcA
      intro g7
      refine awc_h (hm := _) rfl (wt_none rfl) ?sub52 rfl (st_store_o T0 rfl rfl rfl rfl rfl (by first | assumption | (simp only [cellsA]; rfl)) rfl rfl rfl rcA rcA ?_)
      case sub52 => exact rcA
      refine awc_h (hm := _) rfl (wt_none rfl) ?sub54 rfl (st_store_o T0 rfl rfl rfl rfl rfl (by first | assumption | (simp only [cellsA]; rfl)) rfl rfl rfl rcA rcA ?_)
      case sub54 => exact rcA
      refine awc_h (hm := _) rfl (wt_none rfl) ?sub56 rfl (st_store_o T0 rfl rfl rfl rfl rfl (by first | assumption | (simp only [cellsA]; rfl)) rfl rfl rfl rcA rcA ?_)
      case sub56 => exact rcA
      refine awc_end ?_
      exact cut_n ⟨_, _, _, rfl, rfl⟩ ssA rcA
    refine awc_h (hm := []) rfl (wt_none rfl) ?sub60 rfl (st_alloc T0 rfl rfl rfl rfl scA ?_)
    case sub60 => exact rcA
    intro g7
    refine awc_h (hm := []) rfl (wt_none rfl) ?sub63 rfl (st_alloc T0 rfl rfl rfl rfl scA ?_)
    case sub63 => exact rcA
    intro g5
    refine awc_h (hm := _) rfl (wt_none rfl) ?sub66 rfl (st_store_o T0 rfl rfl rfl rfl rfl (by first | assumption | (simp only [cellsA]; rfl)) rfl rfl rfl rcA rcA ?_)
    case sub66 => exact rcA
    refine awc_h (hm := _) rfl (wt_none rfl) ?sub68 rfl (st_store_o T0 rfl rfl rfl rfl rfl (by first | assumption | (simp only [cellsA]; rfl)) rfl rfl rfl rcA rcA ?_)
    case sub68 => exact rcA
    refine awc_h (hm := _) rfl (wt_none rfl) ?sub70 rfl (st_store_o T0 rfl rfl rfl rfl rfl (by first | assumption | (simp only [cellsA]; rfl)) rfl rfl rfl rcA rcA ?_)
    case sub70 => exact rcA
    refine awc_end ?_
    exact cut_n ⟨_, _, _, rfl, rfl⟩ ssA rcA
  refine awc_h (hm := []) rfl (wt_none rfl) ?sub74 rfl (st_alloc T0 rfl rfl rfl rfl scA ?_)
  case sub74 => exact rcA
  intro g7
  refine awc_alt ?_ ?_
  · skip
    refine awc_h (hm := []) rfl (wt_none rfl) ?sub79 rfl (st_alloc T0 rfl rfl rfl rfl scA ?_)
    case sub79 => exact rcA
    intro g5
    refine awc_h (hm := []) rfl (wt_none rfl) ?sub82 rfl (st_alloc T0 rfl rfl rfl rfl scA ?_)
    case sub82 => exact rcA
    intro g6
    refine awc_h (hm := _) rfl (wt_none rfl) ?sub85 rfl (st_store_o T0 rfl rfl rfl rfl rfl (by first | assumption | (simp only [cellsA]; rfl)) rfl rfl rfl rcA rcA ?_)
    case sub85 => exact rcA
    refine awc_h (hm := _) rfl (wt_none rfl) ?sub87 rfl (st_store_o T0 rfl rfl rfl rfl rfl (by first | assumption | (simp only [cellsA]; rfl)) rfl rfl rfl rcA rcA ?_)
    case sub87 => exact rcA
    refine awc_h (hm := _) rfl (wt_none rfl) ?sub89 rfl (st_store_o T0 rfl rfl rfl rfl rfl (by first | assumption | (simp only [cellsA]; rfl)) rfl rfl rfl rcA rcA ?_)
    case sub89 => exact rcA
    refine awc_end ?_
    exact cut_n ⟨_, _, _, rfl, rfl⟩ ssA rcA
  refine awc_h (hm := []) rfl (wt_none rfl) ?sub93 rfl (st_alloc T0 rfl rfl rfl rfl scA ?_)
  case sub93 => exact rcA
  intro g6
  refine awc_h (hm := []) rfl (wt_none rfl) ?sub96 rfl (st_alloc T0 rfl rfl rfl rfl scA ?_)
  case sub96 => exact rcA
  intro g5
  refine awc_h (hm := _) rfl (wt_none rfl) ?sub99 rfl (st_store_o T0 rfl rfl rfl rfl rfl (by first | assumption | (simp only [cellsA]; rfl)) rfl rfl rfl rcA rcA ?_)
  case sub99 => exact rcA
  refine awc_h (hm := _) rfl (wt_none rfl) ?sub101 rfl (st_store_o T0 rfl rfl rfl rfl rfl (by first | assumption | (simp only [cellsA]; rfl)) rfl rfl rfl rcA rcA ?_)
  case sub101 => exact rcA
  refine awc_h (hm := _) rfl (wt_none rfl) ?sub103 rfl (st_store_o T0 rfl rfl rfl rfl rfl (by first | assumption | (simp only [cellsA]; rfl)) rfl rfl rfl rcA rcA ?_)
  case sub103 => exact rcA
  refine awc_end ?_
  exact cut_n ⟨_, _, _, rfl, rfl⟩ ssA rcA
theorem ac_14 (hk : k < o.length) {ops : Array Oper} (h : regF Try.f5 14 = some ops) :
    AWP Try.prog Try.f5.ntmps none (.region 14 ops true) (cutQ (fun s h => s = [(108, boolA (decide (o.getD k 0 < c.num))), (3, .v (ptrV g3)), (5, .v (ptrV g5)), (6, .v (ptrV g6)), (7, .v (ptrV g7)), (8, .t (intsT true o)), (12, .t (intsT true dl)), (14, intA k), (15, .v (ptrV g15))] ∧ h = [.cl g15 93 (R.conRow c), e1, e2, e3, e4, e5, .cl g6 119 [intA m.ex, .t (C.housT false m.hou), .v (.slice a n cc)], .rw (.slice a n cc) 122 3 rows]))
      [(3, .v (ptrV g3)), (5, .v (ptrV g5)), (6, .v (ptrV g6)), (7, .v (ptrV g7)), (8, .t (intsT true o)), (12, .t (intsT true dl)), (14, intA k), (15, .v (ptrV g15))] [.cl g15 93 (R.conRow c), e1, e2, e3, e4, e5, .cl g6 119 [intA m.ex, .t (C.housT false m.hou), .v (.slice a n cc)], .rw (.slice a n cc) 122 3 rows] := by
  cases h
  unfold R.conRow
  refine awp_tree T0 [(0, 0), (1, 0), (2, 0), (3, 1), (4, 0), (5, 1), (6, 0)] (.op 0 0 (.op 1 0 (.op 2 0 (.op 3 1 (.op 4 0 (.op 5 1 (.op 6 0 .stop))))))) _ rfl (by kernel_rfl) (SubH.refl _) ?_
  refine awt_po rfl (wt_none rfl) (pv_move rfl rfl) rfl rfl ?_
  refine awt_po rfl (wt_none rfl) (pv_move rfl rfl) rfl rfl ?_
  refine awt_po rfl (wt_none rfl) (pv_ix_t T0 rfl rfl rfl rfl (by omega) ixA) rfl rfl ?_
  refine awt_lo rfl (wt_none rfl) (lv_elt_sc T0 rfl rfl rfl rfl) rfl rfl rfl ?_
  refine awt_po rfl (wt_none rfl) (pv_fa T0 rfl rfl rfl (by simp; rfl)) rfl rfl ?_
  refine awt_lo rfl (wt_none rfl) (lv_cl1 T0 rfl rfl rfl rcA raA) rfl rfl rfl ?_
  refine awt_po rfl (wt_none rfl) (pv_lss rfl rfl rfl) rfl rfl ?_
  refine awt_end ?_
  exact cut_n ⟨rfl, rfl⟩ ssA rcA
theorem ac_15 (hk : k < o.length) (hb : 0 ≤ o.getD k 0 ∧ o.getD k 0 ≤ c.num ∧ c.num ≤ 100) (hn : rows.length = n) (hn8 : n ≤ 8) {ops : Array Oper} (h : regF Try.f5 15 = some ops) :
    AWP Try.prog Try.f5.ntmps none (.region 15 ops true) (cutQ (fun s h => ∃ a cc, s = [(3, .v (ptrV g3)), (5, .v (ptrV g5)), (6, .v (ptrV g6)), (7, .v (ptrV g7)), (8, .t (intsT true o)), (12, .t (intsT true dl)), (14, intA k), (15, .v (ptrV g15))] ∧ h = [.cl g15 93 (R.conRow c), e1, e2, e3, e4, e5, .cl g6 119 [intA m.ex, .t (C.housT false m.hou), .v (.slice a (n + 1) cc)], .rw (.slice a (n + 1) cc) 122 3 (rows ++ [C.conRow ⟨c.frm, c.to, c.num - o.getD k 0⟩])]))
      [(3, .v (ptrV g3)), (5, .v (ptrV g5)), (6, .v (ptrV g6)), (7, .v (ptrV g7)), (8, .t (intsT true o)), (12, .t (intsT true dl)), (14, intA k), (15, .v (ptrV g15))] [.cl g15 93 (R.conRow c), e1, e2, e3, e4, e5, .cl g6 119 [intA m.ex, .t (C.housT false m.hou), .v (.slice a n cc)], .rw (.slice a n cc) 122 3 rows] := by
  cases h
  unfold R.conRow C.conRow
  refine awp_tree T0 [(0, 0), (1, 1), (2, 0), (3, 1), (4, 0), (5, 1), (6, 0), (7, 1), (8, 0), (9, 0), (10, 0), (11, 1), (12, 0), (13, 0), (14, 2), (15, 3), (16, 0), (17, 3)] (.op 0 0 (.op 1 1 (.op 2 0 (.op 3 1 (.op 4 0 (.op 5 1 (.op 6 0 (.op 7 1 (.op 8 0 (.op 9 0 (.op 10 0 (.op 11 1 (.op 12 0 (.op 13 0 (.op 14 2 (.op 15 3 (.op 16 0 (.op 17 3 .stop)))))))))))))))))) [.cl g15 _ _, .cl g6 _ _] rfl (by kernel_rfl) rcA ?_
  refine awt_po rfl (wt_none rfl) (pv_fa T0 rfl rfl rfl (by simp; rfl)) rfl rfl ?_
  refine awt_lo rfl (wt_none rfl) (lv_cl1 T0 rfl rfl rfl rcA raA) rfl rfl rfl ?_
  refine awt_po rfl (wt_none rfl) (pv_fa T0 rfl rfl rfl (by simp; rfl)) rfl rfl ?_
  refine awt_lo rfl (wt_none rfl) (lv_cl1 T0 rfl rfl rfl rcA raA) rfl rfl rfl ?_
  refine awt_po rfl (wt_none rfl) (pv_fa T0 rfl rfl rfl (by simp; rfl)) rfl rfl ?_
  refine awt_lo rfl (wt_none rfl) (lv_cl1 T0 rfl rfl rfl rcA raA) rfl rfl rfl ?_
  refine awt_po rfl (wt_none rfl) (pv_fa T0 rfl rfl rfl (by simp; rfl)) rfl rfl ?_
  refine awt_lo rfl (wt_none rfl) (lv_cl1 T0 rfl rfl rfl rcA raA) rfl rfl rfl ?_
  refine awt_po rfl (wt_none rfl) (pv_move rfl rfl) rfl rfl ?_
  refine awt_po rfl (wt_none rfl) (pv_move rfl rfl) rfl rfl ?_
  refine awt_po rfl (wt_none rfl) (pv_ix_t T0 rfl rfl rfl rfl (by omega) ixA) rfl rfl ?_
  refine awt_lo rfl (wt_none rfl) (lv_elt_sc T0 rfl rfl rfl rfl) rfl rfl rfl ?_
  refine awt_po rfl (wt_none rfl) (pv_sub rfl rfl rfl (by first | assumption | exact wr64 (by omega))) rfl rfl ?_
  refine awt_po rfl (wt_none rfl) (pv_build T0 rfl rfl rfl scA (by first | ((repeat' (first | exact BParts.nil | apply BParts.cons | rfl)); all_goals fail) | fail) (by first | ((repeat' (first | exact FillA.nil | exact Sp.done | apply FillA.cons | apply Sp.put | apply Sp.skip | (simp only [cellsA]; rfl) | rfl)); all_goals fail) | fail)) rfl rfl ?_
  refine awt_h (hm := []) rfl (wt_none rfl) rcA rfl (st_bsl T0 rfl rfl rfl rfl rfl rcA rfl rfl rfl rfl (by simp only [List.map_cons, List.map_nil, cellsA]; rfl) ?_)
  intro g123
  refine awt_s (md := fun _ => True) rfl (wt_none rfl) (st_app T0 rfl rfl rfl rfl rfl rfl rfl rfl rfl rcA rcA rfl rfl hn (by omega) (fun _ _ => trivial) ?_)
  intro a124 c124 p124
  first
    | refine awe_p rfl (wt_none rfl) (pv_fa T0 rfl rfl rfl (by simp; rfl)) rfl rfl ?_
    | refine awe_p rfl (wt_none rfl) (pv_fa_elt T0 rfl rfl rfl (by simp; rfl)) rfl rfl ?_
    | refine awe_p rfl (wt_none rfl) (pv_fa_rp T0 rfl rfl rfl (by simp; rfl)) rfl rfl ?_
  refine awe_s (md := fun _ => True) rfl (wt_none rfl) (st_store T0 rfl rfl rfl rfl rfl (by first | assumption | (simp only [cellsA]; rfl)) rfl rfl rfl rcA rcA trivial ?_)
  refine awe_end ?_
  exact cut_n ⟨_, _, rfl, rfl⟩ ssA rcA
theorem ac_17 (hk : k < dl.length) (hn : rows.length = n) (hn8 : n ≤ 8) {ops : Array Oper} (h : regF Try.f5 17 = some ops) :
    AWP Try.prog Try.f5.ntmps none (.region 17 ops true) (cutQ (fun s h => ∃ a cc, s = [(3, .v (ptrV g3)), (5, .v (ptrV g5)), (6, .v (ptrV g6)), (7, .v (ptrV g7)), (8, .t (intsT true o)), (12, .t (intsT true dl)), (14, intA k)] ∧ h = [e1, e2, e3, e4, e5, .cl g7 119 [intA m.ex, .t (C.housT false m.hou), .v (.slice a (n + 1) cc)], .rw (.slice a (n + 1) cc) 122 3 (rows ++ [C.conRow ⟨c.frm, c.to, dl.getD k 0⟩])]))
      [(3, .v (ptrV g3)), (5, .v (ptrV g5)), (6, .v (ptrV g6)), (7, .v (ptrV g7)), (8, .t (intsT true o)), (12, .t (intsT true dl)), (14, intA k), (15, .v (ptrV g15))] [.cl g15 93 (R.conRow c), e1, e2, e3, e4, e5, .cl g7 119 [intA m.ex, .t (C.housT false m.hou), .v (.slice a n cc)], .rw (.slice a n cc) 122 3 rows] := by
  cases h
  unfold R.conRow C.conRow
  refine awp_tree T0 [(0, 0), (1, 1), (2, 0), (3, 1), (4, 0), (5, 1), (6, 0), (7, 0), (8, 0), (9, 1), (10, 0), (11, 2), (12, 3), (13, 0), (14, 3)] (.op 0 0 (.op 1 1 (.op 2 0 (.op 3 1 (.op 4 0 (.op 5 1 (.op 6 0 (.op 7 0 (.op 8 0 (.op 9 1 (.op 10 0 (.op 11 2 (.op 12 3 (.op 13 0 (.op 14 3 .stop))))))))))))))) [.cl g15 _ _, .cl g7 _ _] rfl (by kernel_rfl) rcA ?_
  refine awt_po rfl (wt_none rfl) (pv_fa T0 rfl rfl rfl (by simp; rfl)) rfl rfl ?_
  refine awt_lo rfl (wt_none rfl) (lv_cl1 T0 rfl rfl rfl rcA raA) rfl rfl rfl ?_
  refine awt_po rfl (wt_none rfl) (pv_fa T0 rfl rfl rfl (by simp; rfl)) rfl rfl ?_
  refine awt_lo rfl (wt_none rfl) (lv_cl1 T0 rfl rfl rfl rcA raA) rfl rfl rfl ?_
  refine awt_po rfl (wt_none rfl) (pv_fa T0 rfl rfl rfl (by simp; rfl)) rfl rfl ?_
  refine awt_lo rfl (wt_none rfl) (lv_cl1 T0 rfl rfl rfl rcA raA) rfl rfl rfl ?_
  refine awt_po rfl (wt_none rfl) (pv_move rfl rfl) rfl rfl ?_
  refine awt_po rfl (wt_none rfl) (pv_move rfl rfl) rfl rfl ?_
  refine awt_po rfl (wt_none rfl) (pv_ix_t T0 rfl rfl rfl rfl (by omega) ixA) rfl rfl ?_
  refine awt_lo rfl (wt_none rfl) (lv_elt_sc T0 rfl rfl rfl rfl) rfl rfl rfl ?_
  refine awt_po rfl (wt_none rfl) (pv_build T0 rfl rfl rfl scA (by first | ((repeat' (first | exact BParts.nil | apply BParts.cons | rfl)); all_goals fail) | fail) (by first | ((repeat' (first | exact FillA.nil | exact Sp.done | apply FillA.cons | apply Sp.put | apply Sp.skip | (simp only [cellsA]; rfl) | rfl)); all_goals fail) | fail)) rfl rfl ?_
  refine awt_h (hm := []) rfl (wt_none rfl) rcA rfl (st_bsl T0 rfl rfl rfl rfl rfl rcA rfl rfl rfl rfl (by simp only [List.map_cons, List.map_nil, cellsA]; rfl) ?_)
  intro g142
  refine awt_s (md := fun _ => True) rfl (wt_none rfl) (st_app T0 rfl rfl rfl rfl rfl rfl rfl rfl rfl rcA rcA rfl rfl hn (by omega) (fun _ _ => trivial) ?_)
  intro a143 c143 p143
  first
    | refine awe_p rfl (wt_none rfl) (pv_fa T0 rfl rfl rfl (by simp; rfl)) rfl rfl ?_
    | refine awe_p rfl (wt_none rfl) (pv_fa_elt T0 rfl rfl rfl (by simp; rfl)) rfl rfl ?_
    | refine awe_p rfl (wt_none rfl) (pv_fa_rp T0 rfl rfl rfl (by simp; rfl)) rfl rfl ?_
  refine awe_s (md := fun _ => True) rfl (wt_none rfl) (st_store T0 rfl rfl rfl rfl rfl (by first | assumption | (simp only [cellsA]; rfl)) rfl rfl rfl rcA rcA trivial ?_)
  refine awe_end ?_
  exact cut_n ⟨_, _, rfl, rfl⟩ ssA rcA
end
theorem TopRung_p (m : C.MktD) (b : R.BookD) (hl : m.hou.length ≤ maxLen) (hc : m.con.length ≤ maxLen) (hb : b.cons.length ≤ maxLen) : PCall Try.prog 5 [C.mktA false false m, R.bookA false b] (fun r => r = boolA true) := by
  have u1 : m.hou.length ≤ 9223372036854775807 := hl
  have u2 : m.con.length ≤ 9223372036854775807 := hc
  have u3 : b.cons.length ≤ 9223372036854775807 := hb
  have hT := R.thin_q (b := b) (r := _) u3 rfl
  have hT2 : PCall Try.prog 32 [C.mktA false false m, .v (.slice none 0 0)] (fun x => x = boolA _) := C.acall_nil2 (cp := false) (f := fun k => [.sc (.int .i64 (([] : List Int).getD k 0))]) (C.thin_q (ct := false) (m := m) (t := []) u1 u2 (by simp) rfl)
  clear hl hc hb
  refine acall_of_awp T0 Try.func5 rfl rfl rfl ?_
  by_cases t1 : b.cons.length ≤ 12
  case neg =>
    rw [decide_eq_false t1] at hT
    repeat (first | refine awp_seq ?_ | refine awp_region_lit rfl ?_)
    refine awl_hw wtA (st_box rfl rfl raA (by first | assumption | (simp only [cellsA]; rfl)) rfl rfl ?_)
    intro g2
    skip
    refine awl_hw wtA (st_box rfl rfl raA (by first | assumption | (simp only [cellsA]; rfl)) rfl rfl ?_)
    intro g3
    repeat (first | refine awp_seq ?_ | refine awp_region_lit rfl ?_ | ((first | (show AWL _ _ _ (⟨_, .assign _, _, _, _, _⟩ :: _) _ _ _; refine awl_pw ?wtq (pv_assign rfl rfl) rfl rfl ?_) | (show AWL _ _ _ (⟨_, .load _ _, _, _, _, _⟩ :: _) _ _ _; refine awl_lw ?wtq (lv_cla T0 rfl rfl rfl rcA rfl) rfl rfl rfl ?_)); case wtq => exact wtA) | refine awl_nil ?_)
    refine awl_hw wtA (st_call T0 (hT) rfl rfl rfl rfl (by first | exact callee_lit | exact callee_v | exact callee_fn | assumption) rcA raA rfl ?_)
    rintro _ rfl
    repeat (first | refine awp_seq ?_ | refine awp_region_lit rfl ?_ | with_reducible refine then_n ?_ | refine awp_cond_t rfl (by first | rfl | assumption | exact dT (by omega)) ?_ | ((first | (show AWL _ _ _ (⟨_, .move _, _, _, _, _⟩ :: _) _ _ _; refine awl_pw ?wtq (pv_move rfl rfl) rfl rfl ?_) | (show AWL _ _ _ (⟨_, .load _ _, _, _, _, _⟩ :: _) _ _ _; refine awl_lw ?wtq (lv_cla T0 rfl rfl rfl rcA rfl) rfl rfl rfl ?_) | (show AWL _ _ _ (⟨_, .fieldAddr _ _ _, _, _, _, _⟩ :: _) _ _ _; refine awl_pw ?wtq (pv_fa T0 rfl rfl rfl (by simp; rfl)) rfl rfl ?_) | (show AWL _ _ _ (⟨_, .unOp .not _ _, _, _, _, _⟩ :: _) _ _ _; refine awl_pw ?wtq (pv_not rfl rfl) rfl rfl ?_) | (show AWL _ _ _ (⟨_, .pick _ _ _, _, _, _, _⟩ :: _) _ _ _; refine awl_pw ?wtq (pv_pick_t rfl rfl tfA rfl) rfl rfl ?_)); case wtq => exact wtA) | refine awl_sk (wf_some rfl rfl rfl rfl tfA) rfl rfl ?_ | refine awl_nil ?_)
    refine awl_hw wtA (st_call T0 (rung_p) rfl rfl rfl rfl (by first | exact callee_lit | exact callee_v | exact callee_fn | assumption) rcA raA rfl ?_)
    rintro _ rfl
    repeat (first | refine awp_ret ?_ | with_reducible refine then_r ?_ | ((first | (show AWL _ _ _ (⟨_, .assign _, _, _, _, _⟩ :: _) _ _ _; refine awl_pw ?wtq (pv_assign rfl rfl) rfl rfl ?_)); case wtq => exact wtA) | refine awl_nil ?_)
    exact body_p (.cons rfl .nil) rfl
  rw [decide_eq_true t1] at hT
  have hF := R.fault_p false b (by omega)
  by_cases hf : R.faultN b = 0
  case neg =>
    have d1 := decide_eq_true hf
    repeat (first | refine awp_seq ?_ | refine awp_region_lit rfl ?_)
    refine awl_hw wtA (st_box rfl rfl raA (by first | assumption | (simp only [cellsA]; rfl)) rfl rfl ?_)
    intro g2
    skip
    refine awl_hw wtA (st_box rfl rfl raA (by first | assumption | (simp only [cellsA]; rfl)) rfl rfl ?_)
    intro g3
    repeat (first | refine awp_seq ?_ | refine awp_region_lit rfl ?_ | ((first | (show AWL _ _ _ (⟨_, .assign _, _, _, _, _⟩ :: _) _ _ _; refine awl_pw ?wtq (pv_assign rfl rfl) rfl rfl ?_) | (show AWL _ _ _ (⟨_, .load _ _, _, _, _, _⟩ :: _) _ _ _; refine awl_lw ?wtq (lv_cla T0 rfl rfl rfl rcA rfl) rfl rfl rfl ?_)); case wtq => exact wtA) | refine awl_nil ?_)
    refine awl_hw wtA (st_call T0 (hT) rfl rfl rfl rfl (by first | exact callee_lit | exact callee_v | exact callee_fn | assumption) rcA raA rfl ?_)
    rintro _ rfl
    repeat (first | ((first | (show AWL _ _ _ (⟨_, .move _, _, _, _, _⟩ :: _) _ _ _; refine awl_pw ?wtq (pv_move rfl rfl) rfl rfl ?_) | (show AWL _ _ _ (⟨_, .load _ _, _, _, _, _⟩ :: _) _ _ _; refine awl_lw ?wtq (lv_cla T0 rfl rfl rfl rcA rfl) rfl rfl rfl ?_) | (show AWL _ _ _ (⟨_, .unOp .not _ _, _, _, _, _⟩ :: _) _ _ _; refine awl_pw ?wtq (pv_not rfl rfl) rfl rfl ?_)); case wtq => exact wtA))
    refine awl_hw wtA (st_call T0 (hF) rfl rfl rfl rfl (by first | exact callee_lit | exact callee_v | exact callee_fn | assumption) rcA raA rfl ?_)
    rintro _ rfl
    repeat (first | refine awp_seq ?_ | refine awp_region_lit rfl ?_ | with_reducible refine then_n ?_ | refine awp_cond_t rfl (by first | rfl | assumption | exact dT (by omega)) ?_ | ((first | (show AWL _ _ _ (⟨_, .move _, _, _, _, _⟩ :: _) _ _ _; refine awl_pw ?wtq (pv_move rfl rfl) rfl rfl ?_) | (show AWL _ _ _ (⟨_, .load _ _, _, _, _, _⟩ :: _) _ _ _; refine awl_lw ?wtq (lv_cla T0 rfl rfl rfl rcA rfl) rfl rfl rfl ?_) | (show AWL _ _ _ (⟨_, .fieldAddr _ _ _, _, _, _, _⟩ :: _) _ _ _; refine awl_pw ?wtq (pv_fa T0 rfl rfl rfl (by simp; rfl)) rfl rfl ?_) | (show AWL _ _ _ (⟨_, .binOp .neq _ _ _ _, _, _, _, _⟩ :: _) _ _ _; refine awl_pw ?wtq (pv_neq rfl rfl rfl) rfl rfl ?_) | (show AWL _ _ _ (⟨_, .pick _ _ _, _, _, _, _⟩ :: _) _ _ _; refine awl_pw ?wtq (pv_pick_t rfl rfl tfA rfl) rfl rfl ?_) | (show AWL _ _ _ (⟨_, .pick _ _ _, _, _, _, _⟩ :: _) _ _ _; refine awl_pw ?wtq (pv_pick_f rfl rfl tfA rfl) rfl rfl ?_)); case wtq => exact wtA) | refine awl_sk (wf_some rfl rfl rfl rfl tfA) rfl rfl ?_ | refine awl_nil ?_)
    refine awl_hw wtA (st_call T0 (rung_p) rfl rfl rfl rfl (by first | exact callee_lit | exact callee_v | exact callee_fn | assumption) rcA raA rfl ?_)
    rintro _ rfl
    repeat (first | refine awp_ret ?_ | with_reducible refine then_r ?_ | ((first | (show AWL _ _ _ (⟨_, .assign _, _, _, _, _⟩ :: _) _ _ _; refine awl_pw ?wtq (pv_assign rfl rfl) rfl rfl ?_)); case wtq => exact wtA) | refine awl_nil ?_)
    exact body_p (.cons rfl .nil) rfl
  rw [hf] at hF
  have hv := R.vbook hf
  have hblen := hv.len
  have hbh := hv.houses
  generalize hth : (decide (m.hou.length ≤ 9) && decide (m.con.length ≤ 11) && decide (([] : List Int).length ≤ 9)) = th at hT2
  cases th
  · repeat (first | refine awp_seq ?_ | refine awp_region_lit rfl ?_)
    refine awl_hw wtA (st_box rfl rfl raA (by first | assumption | (simp only [cellsA]; rfl)) rfl rfl ?_)
    intro g2
    skip
    refine awl_hw wtA (st_box rfl rfl raA (by first | assumption | (simp only [cellsA]; rfl)) rfl rfl ?_)
    intro g3
    repeat (first | refine awp_seq ?_ | refine awp_region_lit rfl ?_ | ((first | (show AWL _ _ _ (⟨_, .assign _, _, _, _, _⟩ :: _) _ _ _; refine awl_pw ?wtq (pv_assign rfl rfl) rfl rfl ?_) | (show AWL _ _ _ (⟨_, .load _ _, _, _, _, _⟩ :: _) _ _ _; refine awl_lw ?wtq (lv_cla T0 rfl rfl rfl rcA rfl) rfl rfl rfl ?_)); case wtq => exact wtA) | refine awl_nil ?_)
    refine awl_hw wtA (st_call T0 (hT) rfl rfl rfl rfl (by first | exact callee_lit | exact callee_v | exact callee_fn | assumption) rcA raA rfl ?_)
    rintro _ rfl
    repeat (first | ((first | (show AWL _ _ _ (⟨_, .move _, _, _, _, _⟩ :: _) _ _ _; refine awl_pw ?wtq (pv_move rfl rfl) rfl rfl ?_) | (show AWL _ _ _ (⟨_, .load _ _, _, _, _, _⟩ :: _) _ _ _; refine awl_lw ?wtq (lv_cla T0 rfl rfl rfl rcA rfl) rfl rfl rfl ?_) | (show AWL _ _ _ (⟨_, .unOp .not _ _, _, _, _, _⟩ :: _) _ _ _; refine awl_pw ?wtq (pv_not rfl rfl) rfl rfl ?_)); case wtq => exact wtA))
    refine awl_hw wtA (st_call T0 (hF) rfl rfl rfl rfl (by first | exact callee_lit | exact callee_v | exact callee_fn | assumption) rcA raA rfl ?_)
    rintro _ rfl
    repeat (first | ((first | (show AWL _ _ _ (⟨_, .move _, _, _, _, _⟩ :: _) _ _ _; refine awl_pw ?wtq (pv_move rfl rfl) rfl rfl ?_) | (show AWL _ _ _ (⟨_, .load _ _, _, _, _, _⟩ :: _) _ _ _; refine awl_lw ?wtq (lv_cla T0 rfl rfl rfl rcA rfl) rfl rfl rfl ?_) | (show AWL _ _ _ (⟨_, .binOp .neq _ _ _ _, _, _, _, _⟩ :: _) _ _ _; refine awl_pw ?wtq (pv_neq rfl rfl rfl) rfl rfl ?_) | (show AWL _ _ _ (⟨_, .pick _ _ _, _, _, _, _⟩ :: _) _ _ _; refine awl_pw ?wtq (pv_pick_f rfl rfl tfA rfl) rfl rfl ?_)); case wtq => exact wtA))
    refine awl_hw wtA (st_call T0 (hT2) rfl rfl rfl rfl (by first | exact callee_lit | exact callee_v | exact callee_fn | assumption) rcA raA rfl ?_)
    rintro _ rfl
    repeat (first | refine awp_seq ?_ | refine awp_region_lit rfl ?_ | with_reducible refine then_n ?_ | refine awp_cond_t rfl (by first | rfl | assumption | exact dT (by omega)) ?_ | ((first | (show AWL _ _ _ (⟨_, .move _, _, _, _, _⟩ :: _) _ _ _; refine awl_pw ?wtq (pv_move rfl rfl) rfl rfl ?_) | (show AWL _ _ _ (⟨_, .fieldAddr _ _ _, _, _, _, _⟩ :: _) _ _ _; refine awl_pw ?wtq (pv_fa T0 rfl rfl rfl (by simp; rfl)) rfl rfl ?_) | (show AWL _ _ _ (⟨_, .unOp .not _ _, _, _, _, _⟩ :: _) _ _ _; refine awl_pw ?wtq (pv_not rfl rfl) rfl rfl ?_) | (show AWL _ _ _ (⟨_, .pick _ _ _, _, _, _, _⟩ :: _) _ _ _; refine awl_pw ?wtq (pv_pick_t rfl rfl tfA rfl) rfl rfl ?_) | (show AWL _ _ _ (⟨_, .pick _ _ _, _, _, _, _⟩ :: _) _ _ _; refine awl_pw ?wtq (pv_pick_f rfl rfl tfA rfl) rfl rfl ?_)); case wtq => exact wtA) | refine awl_sk (wf_some rfl rfl rfl rfl tfA) rfl rfl ?_ | refine awl_nil ?_)
    refine awl_hw wtA (st_call T0 (rung_p) rfl rfl rfl rfl (by first | exact callee_lit | exact callee_v | exact callee_fn | assumption) rcA raA rfl ?_)
    rintro _ rfl
    repeat (first | refine awp_ret ?_ | with_reducible refine then_r ?_ | ((first | (show AWL _ _ _ (⟨_, .assign _, _, _, _, _⟩ :: _) _ _ _; refine awl_pw ?wtq (pv_assign rfl rfl) rfl rfl ?_)); case wtq => exact wtA) | refine awl_nil ?_)
    exact body_p (.cons rfl .nil) rfl
  simp only [Bool.and_eq_true, decide_eq_true_eq] at hth
  by_cases hh : (m.hou.length : Int) < b.houses
  · have d1 := decide_eq_true hh
    repeat (first | refine awp_seq ?_ | refine awp_region_lit rfl ?_)
    refine awl_hw wtA (st_box rfl rfl raA (by first | assumption | (simp only [cellsA]; rfl)) rfl rfl ?_)
    intro g2
    skip
    refine awl_hw wtA (st_box rfl rfl raA (by first | assumption | (simp only [cellsA]; rfl)) rfl rfl ?_)
    intro g3
    repeat (first | refine awp_seq ?_ | refine awp_region_lit rfl ?_ | ((first | (show AWL _ _ _ (⟨_, .assign _, _, _, _, _⟩ :: _) _ _ _; refine awl_pw ?wtq (pv_assign rfl rfl) rfl rfl ?_) | (show AWL _ _ _ (⟨_, .load _ _, _, _, _, _⟩ :: _) _ _ _; refine awl_lw ?wtq (lv_cla T0 rfl rfl rfl rcA rfl) rfl rfl rfl ?_)); case wtq => exact wtA) | refine awl_nil ?_)
    refine awl_hw wtA (st_call T0 (hT) rfl rfl rfl rfl (by first | exact callee_lit | exact callee_v | exact callee_fn | assumption) rcA raA rfl ?_)
    rintro _ rfl
    repeat (first | ((first | (show AWL _ _ _ (⟨_, .move _, _, _, _, _⟩ :: _) _ _ _; refine awl_pw ?wtq (pv_move rfl rfl) rfl rfl ?_) | (show AWL _ _ _ (⟨_, .load _ _, _, _, _, _⟩ :: _) _ _ _; refine awl_lw ?wtq (lv_cla T0 rfl rfl rfl rcA rfl) rfl rfl rfl ?_) | (show AWL _ _ _ (⟨_, .unOp .not _ _, _, _, _, _⟩ :: _) _ _ _; refine awl_pw ?wtq (pv_not rfl rfl) rfl rfl ?_)); case wtq => exact wtA))
    refine awl_hw wtA (st_call T0 (hF) rfl rfl rfl rfl (by first | exact callee_lit | exact callee_v | exact callee_fn | assumption) rcA raA rfl ?_)
    rintro _ rfl
    repeat (first | ((first | (show AWL _ _ _ (⟨_, .move _, _, _, _, _⟩ :: _) _ _ _; refine awl_pw ?wtq (pv_move rfl rfl) rfl rfl ?_) | (show AWL _ _ _ (⟨_, .load _ _, _, _, _, _⟩ :: _) _ _ _; refine awl_lw ?wtq (lv_cla T0 rfl rfl rfl rcA rfl) rfl rfl rfl ?_) | (show AWL _ _ _ (⟨_, .binOp .neq _ _ _ _, _, _, _, _⟩ :: _) _ _ _; refine awl_pw ?wtq (pv_neq rfl rfl rfl) rfl rfl ?_) | (show AWL _ _ _ (⟨_, .pick _ _ _, _, _, _, _⟩ :: _) _ _ _; refine awl_pw ?wtq (pv_pick_f rfl rfl tfA rfl) rfl rfl ?_)); case wtq => exact wtA))
    refine awl_hw wtA (st_call T0 (hT2) rfl rfl rfl rfl (by first | exact callee_lit | exact callee_v | exact callee_fn | assumption) rcA raA rfl ?_)
    rintro _ rfl
    repeat (first | refine awp_seq ?_ | refine awp_region_lit rfl ?_ | with_reducible refine then_n ?_ | refine awp_cond_t rfl (by first | rfl | assumption | exact dT (by omega)) ?_ | ((first | (show AWL _ _ _ (⟨_, .move _, _, _, _, _⟩ :: _) _ _ _; refine awl_pw ?wtq (pv_move rfl rfl) rfl rfl ?_) | (show AWL _ _ _ (⟨_, .load _ _, _, _, _, _⟩ :: _) _ _ _; refine awl_lw ?wtq (lv_cl1 T0 rfl rfl rfl rcA raA) rfl rfl rfl ?_) | (show AWL _ _ _ (⟨_, .fieldAddr _ _ _, _, _, _, _⟩ :: _) _ _ _; refine awl_pw ?wtq (pv_fa T0 rfl rfl rfl (by simp; rfl)) rfl rfl ?_) | (show AWL _ _ _ (⟨_, .binOp .lss _ _ _ _, _, _, _, _⟩ :: _) _ _ _; refine awl_pw ?wtq (pv_lss rfl rfl rfl) rfl rfl ?_) | (show AWL _ _ _ (⟨_, .call ⟨.builtin .len, _, _⟩, _, _, _, _⟩ :: _) _ _ _; refine awl_pw ?wtq (pv_len_t T0 rfl rfl rfl) rfl rfl ?_) | (show AWL _ _ _ (⟨_, .unOp .not _ _, _, _, _, _⟩ :: _) _ _ _; refine awl_pw ?wtq (pv_not rfl rfl) rfl rfl ?_) | (show AWL _ _ _ (⟨_, .pick _ _ _, _, _, _, _⟩ :: _) _ _ _; refine awl_pw ?wtq (pv_pick_f rfl rfl tfA rfl) rfl rfl ?_)); case wtq => exact wtA) | refine awl_nil ?_)
    refine awl_hw wtA (st_call T0 (rung_p) rfl rfl rfl rfl (by first | exact callee_lit | exact callee_v | exact callee_fn | assumption) rcA raA rfl ?_)
    rintro _ rfl
    repeat (first | refine awp_ret ?_ | with_reducible refine then_r ?_ | ((first | (show AWL _ _ _ (⟨_, .assign _, _, _, _, _⟩ :: _) _ _ _; refine awl_pw ?wtq (pv_assign rfl rfl) rfl rfl ?_)); case wtq => exact wtA) | refine awl_nil ?_)
    exact body_p (.cons rfl .nil) rfl
  have d1 := decide_eq_false hh
  repeat (first | refine awp_seq ?_ | refine awp_region_lit rfl ?_)
  refine awl_hw wtA (st_box rfl rfl raA (by first | assumption | (simp only [cellsA]; rfl)) rfl rfl ?_)
  intro g2
  skip
  refine awl_hw wtA (st_box rfl rfl raA (by first | assumption | (simp only [cellsA]; rfl)) rfl rfl ?_)
  intro g3
  repeat (first | refine awp_seq ?_ | refine awp_region_lit rfl ?_ | ((first | (show AWL _ _ _ (⟨_, .assign _, _, _, _, _⟩ :: _) _ _ _; refine awl_pw ?wtq (pv_assign rfl rfl) rfl rfl ?_) | (show AWL _ _ _ (⟨_, .load _ _, _, _, _, _⟩ :: _) _ _ _; refine awl_lw ?wtq (lv_cla T0 rfl rfl rfl rcA rfl) rfl rfl rfl ?_)); case wtq => exact wtA) | refine awl_nil ?_)
  refine awl_hw wtA (st_call T0 (hT) rfl rfl rfl rfl (by first | exact callee_lit | exact callee_v | exact callee_fn | assumption) rcA raA rfl ?_)
  rintro _ rfl
  repeat (first | ((first | (show AWL _ _ _ (⟨_, .move _, _, _, _, _⟩ :: _) _ _ _; refine awl_pw ?wtq (pv_move rfl rfl) rfl rfl ?_) | (show AWL _ _ _ (⟨_, .load _ _, _, _, _, _⟩ :: _) _ _ _; refine awl_lw ?wtq (lv_cla T0 rfl rfl rfl rcA rfl) rfl rfl rfl ?_) | (show AWL _ _ _ (⟨_, .unOp .not _ _, _, _, _, _⟩ :: _) _ _ _; refine awl_pw ?wtq (pv_not rfl rfl) rfl rfl ?_)); case wtq => exact wtA))
  refine awl_hw wtA (st_call T0 (hF) rfl rfl rfl rfl (by first | exact callee_lit | exact callee_v | exact callee_fn | assumption) rcA raA rfl ?_)
  rintro _ rfl
  repeat (first | ((first | (show AWL _ _ _ (⟨_, .move _, _, _, _, _⟩ :: _) _ _ _; refine awl_pw ?wtq (pv_move rfl rfl) rfl rfl ?_) | (show AWL _ _ _ (⟨_, .load _ _, _, _, _, _⟩ :: _) _ _ _; refine awl_lw ?wtq (lv_cla T0 rfl rfl rfl rcA rfl) rfl rfl rfl ?_) | (show AWL _ _ _ (⟨_, .binOp .neq _ _ _ _, _, _, _, _⟩ :: _) _ _ _; refine awl_pw ?wtq (pv_neq rfl rfl rfl) rfl rfl ?_) | (show AWL _ _ _ (⟨_, .pick _ _ _, _, _, _, _⟩ :: _) _ _ _; refine awl_pw ?wtq (pv_pick_f rfl rfl tfA rfl) rfl rfl ?_)); case wtq => exact wtA))
  refine awl_hw wtA (st_call T0 (hT2) rfl rfl rfl rfl (by first | exact callee_lit | exact callee_v | exact callee_fn | assumption) rcA raA rfl ?_)
  rintro _ rfl
  repeat (first | refine awp_seq ?_ | refine awp_skip ?_ | with_reducible refine then_n ?_ | refine awp_cond_f rfl (by first | rfl | assumption | exact dF (by omega)) ?_ | ((first | (show AWL _ _ _ (⟨_, .move _, _, _, _, _⟩ :: _) _ _ _; refine awl_pw ?wtq (pv_move rfl rfl) rfl rfl ?_) | (show AWL _ _ _ (⟨_, .load _ _, _, _, _, _⟩ :: _) _ _ _; refine awl_lw ?wtq (lv_cl1 T0 rfl rfl rfl rcA raA) rfl rfl rfl ?_) | (show AWL _ _ _ (⟨_, .fieldAddr _ _ _, _, _, _, _⟩ :: _) _ _ _; refine awl_pw ?wtq (pv_fa T0 rfl rfl rfl (by simp; rfl)) rfl rfl ?_) | (show AWL _ _ _ (⟨_, .binOp .lss _ _ _ _, _, _, _, _⟩ :: _) _ _ _; refine awl_pw ?wtq (pv_lss rfl rfl rfl) rfl rfl ?_) | (show AWL _ _ _ (⟨_, .call ⟨.builtin .len, _, _⟩, _, _, _, _⟩ :: _) _ _ _; refine awl_pw ?wtq (pv_len_t T0 rfl rfl rfl) rfl rfl ?_) | (show AWL _ _ _ (⟨_, .unOp .not _ _, _, _, _, _⟩ :: _) _ _ _; refine awl_pw ?wtq (pv_not rfl rfl) rfl rfl ?_) | (show AWL _ _ _ (⟨_, .pick _ _ _, _, _, _, _⟩ :: _) _ _ _; refine awl_pw ?wtq (pv_pick_f rfl rfl tfA rfl) rfl rfl ?_)); case wtq => exact wtA) | refine awl_nil ?_)
  refine awp_cut _ (awp_weak ssA rcA (ac_3 (g2 := g2) (g3 := g3) (m := m) (b := b) rfl)) ?_
  rintro s h ⟨g5, g6, g7, rfl, rfl⟩
  have hB := R.book_p b (by omega)
  have hG := R.greatest_p true b (by omega)
  have hW := R.fewest_p true b (by omega)
  simp only [if_pos hf] at hG hW
  repeat (first | refine awp_seq ?_ | refine awp_region_lit rfl ?_ | ((first | (show AWL _ _ _ (⟨_, .load _ _, _, _, _, _⟩ :: _) _ _ _; refine awl_lw ?wtq (lv_cla T0 rfl rfl rfl rcA rfl) rfl rfl rfl ?_) | (show AWL _ _ _ (⟨_, .fieldAddr _ _ _, _, _, _, _⟩ :: _) _ _ _; refine awl_pw ?wtq (pv_fa T0 rfl rfl rfl (by simp; rfl)) rfl rfl ?_)); case wtq => exact wtA) | (show AWL _ _ _ (⟨_, .store _ _ _, _, _, _, _⟩ :: _) _ _ _; refine awl_hw wtA (st_store T0 rfl rfl rfl rfl rfl (by first | assumption | (simp only [cellsA]; rfl)) rfl rfl rfl rcA rcA trivial ?_)) | refine awl_nil ?_)
  refine awl_hw wtA (st_call T0 (hB) rfl rfl rfl rfl (by first | exact callee_lit | exact callee_v | exact callee_fn | assumption) rcA raA rfl ?_)
  rintro _ rfl
  skip
  refine awl_hw wtA (st_call T0 (hG) rfl rfl rfl rfl (by first | exact callee_lit | exact callee_v | exact callee_fn | assumption) rcA raA rfl ?_)
  rintro r ⟨o, hs, rfl, hg⟩
  have gf := R.gr_facts hv hg
  have hol := gf.len
  have hoff := (R.offB_iff hv).1 gf.isoff
  have hI := R.roff_p true b o hv (by omega)
  rw [gf.isoff] at hI
  repeat (first | refine awp_seq ?_ | refine awp_region_lit rfl ?_ | ((first | (show AWL _ _ _ (⟨_, .move _, _, _, _, _⟩ :: _) _ _ _; refine awl_pw ?wtq (pv_move rfl rfl) rfl rfl ?_) | (show AWL _ _ _ (⟨_, .assign _, _, _, _, _⟩ :: _) _ _ _; refine awl_pw ?wtq (pv_assign rfl rfl) rfl rfl ?_) | (show AWL _ _ _ (⟨_, .load _ _, _, _, _, _⟩ :: _) _ _ _; refine awl_lw ?wtq (lv_cla T0 rfl rfl rfl rcA rfl) rfl rfl rfl ?_) | (show AWL _ _ _ (⟨_, .extract _ _, _, _, _, _⟩ :: _) _ _ _; refine awl_pw ?wtq (pv_extract rfl rfl rfl) rfl rfl ?_)); case wtq => exact wtA) | refine awl_nil ?_)
  refine awl_hw wtA (st_call T0 (hB) rfl rfl rfl rfl (by first | exact callee_lit | exact callee_v | exact callee_fn | assumption) rcA raA rfl ?_)
  rintro _ rfl
  skip
  refine awl_hw wtA (st_call T0 (hW) rfl rfl rfl rfl (by first | exact callee_lit | exact callee_v | exact callee_fn | assumption) rcA raA rfl ?_)
  rintro r ⟨s, f, hfw, rfl⟩
  have hdl : (R.digL f b.cons.length).length = b.cons.length := R.dig_len f _
  have hdk : ∀ k, k < b.cons.length → (R.digL f b.cons.length).getD k 0 = f k := fun k hk => R.digL_at hk
  have hfb := few_bd hv hfw
  have hleft := rung_left (m := m) hv (by omega) gf.isoff
  have hfew := rung_few (m := m) hv (by omega) hfw
  generalize R.digL f b.cons.length = dl at *
  have d2 : decide ((dl.length : Int) ≠ b.cons.length) = false := decide_eq_false (fun h => h (by rw [hdl]))
  repeat (first | refine awp_seq ?_ | refine awp_region_lit rfl ?_ | ((first | (show AWL _ _ _ (⟨_, .move _, _, _, _, _⟩ :: _) _ _ _; refine awl_pw ?wtq (pv_move rfl rfl) rfl rfl ?_) | (show AWL _ _ _ (⟨_, .assign _, _, _, _, _⟩ :: _) _ _ _; refine awl_pw ?wtq (pv_assign rfl rfl) rfl rfl ?_) | (show AWL _ _ _ (⟨_, .load _ _, _, _, _, _⟩ :: _) _ _ _; refine awl_lw ?wtq (lv_cla T0 rfl rfl rfl rcA rfl) rfl rfl rfl ?_) | (show AWL _ _ _ (⟨_, .binOp .neq _ _ _ _, _, _, _, _⟩ :: _) _ _ _; refine awl_pw ?wtq (pv_neq rfl rfl rfl) rfl rfl ?_) | (show AWL _ _ _ (⟨_, .extract _ _, _, _, _, _⟩ :: _) _ _ _; refine awl_pw ?wtq (pv_extract rfl rfl rfl) rfl rfl ?_) | (show AWL _ _ _ (⟨_, .pick _ _ _, _, _, _, _⟩ :: _) _ _ _; refine awl_pw ?wtq (pv_pick_f rfl rfl tfA rfl) rfl rfl ?_)); case wtq => exact wtA) | refine awl_nil ?_)
  refine awl_hw wtA (st_call T0 (hI) rfl rfl rfl rfl (by first | exact callee_lit | exact callee_v | exact callee_fn | assumption) rcA raA rfl ?_)
  rintro _ rfl
  repeat (first | refine awp_seq ?_ | refine awp_block ?_ | refine awp_region_lit rfl ?_ | refine awp_skip ?_ | with_reducible refine then_n ?_ | refine awp_cond_f rfl (by first | rfl | assumption | exact dF (by omega)) ?_ | ((first | (show AWL _ _ _ (⟨_, .move _, _, _, _, _⟩ :: _) _ _ _; refine awl_pw ?wtq (pv_move rfl rfl) rfl rfl ?_) | (show AWL _ _ _ (⟨_, .assign _, _, _, _, _⟩ :: _) _ _ _; refine awl_pw ?wtq (pv_assign rfl rfl) rfl rfl ?_) | (show AWL _ _ _ (⟨_, .load _ _, _, _, _, _⟩ :: _) _ _ _; refine awl_lw ?wtq (lv_cl1 T0 rfl rfl rfl rcA raA) rfl rfl rfl ?_) | (show AWL _ _ _ (⟨_, .fieldAddr _ _ _, _, _, _, _⟩ :: _) _ _ _; refine awl_pw ?wtq (pv_fa T0 rfl rfl rfl (by simp; rfl)) rfl rfl ?_) | (show AWL _ _ _ (⟨_, .binOp .neq _ _ _ _, _, _, _, _⟩ :: _) _ _ _; refine awl_pw ?wtq (pv_neq rfl rfl rfl) rfl rfl ?_) | (show AWL _ _ _ (⟨_, .call ⟨.builtin .len, _, _⟩, _, _, _, _⟩ :: _) _ _ _; refine awl_pw ?wtq (pv_len_t T0 rfl rfl rfl) rfl rfl ?_) | (show AWL _ _ _ (⟨_, .unOp .not _ _, _, _, _, _⟩ :: _) _ _ _; refine awl_pw ?wtq (pv_not rfl rfl) rfl rfl ?_) | (show AWL _ _ _ (⟨_, .pick _ _ _, _, _, _, _⟩ :: _) _ _ _; refine awl_pw ?wtq (pv_pick_f rfl rfl tfA rfl) rfl rfl ?_)); case wtq => exact wtA) | refine awl_nil ?_)
  have hod : ∀ k, k < b.cons.length → 0 ≤ o.getD k 0 ∧ o.getD k 0 ≤ (b.cons.getD k default).num ∧ (b.cons.getD k default).num ≤ 100 := fun k hk => by
    have h1 := hv.num k hk
    have h2 : 0 ≤ o.getD k 0 ∧ o.getD k 0 ≤ (b.cons.getD k default).num := hoff.2.bd k hk
    omega
  obtain ⟨F1, hF1⟩ : ∃ F, F = R.numF b := ⟨_, rfl⟩
  obtain ⟨F2, hF2⟩ : ∃ F : Nat → Int, F = fun i => R.numF b i - o.getD i 0 := ⟨_, rfl⟩
  have hF1k : ∀ k, F1 k = (b.cons.getD k default).num := fun k => by rw [hF1]; rfl
  have hF2k : ∀ k, F2 k = (b.cons.getD k default).num - o.getD k 0 := fun k => by rw [hF2]; rfl
  rw [← hF2, ← hF1] at hleft
  rw [← hF1] at hfew
  refine awp_ghost (ghost_nilrow 122 3) ?_
  refine awp_ghost (ghost_nilrow 122 3) ?_
  refine awp_ghost (ghost_nilrow 122 3) ?_
  refine awp_loop (fun q s h => ∃ (k : Nat) (a1 a2 a3 : Option Addr) (n1 n2 n3 c1 c2 c3 : Nat) (r1 r2 r3 : List (List AV)), k ≤ b.cons.length ∧ q = b.cons.length - k ∧ r1 = (cL b F1 k).map C.conRow ∧ r2 = (cL b F2 k).map C.conRow ∧ r3 = (cL b f k).map C.conRow ∧ r1.length = n1 ∧ r2.length = n2 ∧ r3.length = n3 ∧
    s = [(3, .v (ptrV g3)), (5, .v (ptrV g5)), (6, .v (ptrV g6)), (7, .v (ptrV g7)), (8, .t (intsT true o)), (12, .t (intsT true dl)), (14, intA k)] ∧ h = [.cl g3 81 [intA b.houses, .t (R.consT false b.cons)], .cl g5 119 [intA m.ex, .t (C.housT false m.hou), .v (.slice a1 n1 c1)], .rw (.slice a1 n1 c1) 122 3 r1, .cl g6 119 [intA m.ex, .t (C.housT false m.hou), .v (.slice a2 n2 c2)], .rw (.slice a2 n2 c2) 122 3 r2, .cl g7 119 [intA m.ex, .t (C.housT false m.hou), .v (.slice a3 n3 c3)], .rw (.slice a3 n3 c3) 122 3 r3]) ?_ ⟨0, none, none, none, 0, 0, 0, 0, 0, 0, [], [], [], Nat.zero_le _, rfl, rfl, rfl, rfl, rfl, rfl, rfl, rfl, rfl⟩ ssA rcA
  rintro q s h ⟨k, a1, a2, a3, n1, n2, n3, c1, c2, c3, r1, r2, r3, hk, rfl, hr1, hr2, hr3, hn1, hn2, hn3, rfl, rfl⟩
  have hl1 : n1 ≤ 8 := by
    have := cL_len b F1 k
    rw [← hn1, hr1, List.length_map]; omega
  have hl2 : n2 ≤ 8 := by
    have := cL_len b F2 k
    rw [← hn2, hr2, List.length_map]; omega
  have hl3 : n3 ≤ 8 := by
    have := cL_len b f k
    rw [← hn3, hr3, List.length_map]; omega
  by_cases hlt : k < b.cons.length
  · have ho := hod k hlt
    have hp1 : 0 < F1 k := by
      have := (hv.num k hlt).1
      rw [hF1k]; omega
    have hfk := hfb k hlt
    have hdk' := hdk k hlt
    repeat (first | refine awp_seq ?_ | refine awp_block ?_ | refine awp_region_lit rfl ?_ | refine awp_skip ?_ | with_reducible refine then_n ?_ | refine awp_cond_t rfl (by first | rfl | assumption | exact dT (by omega)) ?_ | ((first | (show AWL _ _ _ (⟨_, .move _, _, _, _, _⟩ :: _) _ _ _; refine awl_pw ?wtq (pv_move rfl rfl) rfl rfl ?_) | (show AWL _ _ _ (⟨_, .load _ _, _, _, _, _⟩ :: _) _ _ _; refine awl_lw ?wtq (lv_cl1 T0 rfl rfl rfl rcA raA) rfl rfl rfl ?_) | (show AWL _ _ _ (⟨_, .load _ _, _, _, _, _⟩ :: _) _ _ _; refine awl_lw ?wtq (lv_elt_ag T0 rfl rfl rfl rfl rcA) rfl rfl rfl ?_) | (show AWL _ _ _ (⟨_, .fieldAddr _ _ _, _, _, _, _⟩ :: _) _ _ _; refine awl_pw ?wtq (pv_fa T0 rfl rfl rfl (by simp; rfl)) rfl rfl ?_) | (show AWL _ _ _ (⟨_, .indexAddr _ _ _, _, _, _, _⟩ :: _) _ _ _; refine awl_pw ?wtq (pv_ix_t T0 rfl rfl rfl rfl (by omega) ixA) rfl rfl ?_) | (show AWL _ _ _ (⟨_, .binOp .lss _ _ _ _, _, _, _, _⟩ :: _) _ _ _; refine awl_pw ?wtq (pv_lss rfl rfl rfl) rfl rfl ?_) | (show AWL _ _ _ (⟨_, .call ⟨.builtin .len, _, _⟩, _, _, _, _⟩ :: _) _ _ _; refine awl_pw ?wtq (pv_len_t T0 rfl rfl rfl) rfl rfl ?_)); case wtq => exact wtA) | refine awl_nil ?_)
    refine awl_hw wtA (st_alloc T0 rfl rfl rfl rfl scA ?_)
    intro g15
    repeat (first | refine awp_seq ?_ | refine awp_region_lit rfl ?_ | ((first | (show AWL _ _ _ (⟨_, .load _ _, _, _, _, _⟩ :: _) _ _ _; refine awl_lw ?wtq (lv_cl1 T0 rfl rfl rfl rcA raA) rfl rfl rfl ?_) | (show AWL _ _ _ (⟨_, .fieldAddr _ _ _, _, _, _, _⟩ :: _) _ _ _; refine awl_pw ?wtq (pv_fa T0 rfl rfl rfl (by simp; rfl)) rfl rfl ?_) | (show AWL _ _ _ (⟨_, .build _ _, _, _, _, _⟩ :: _) _ _ _; refine awl_pw ?wtq (pv_build T0 rfl rfl rfl scA (by first | ((repeat' (first | exact BParts.nil | apply BParts.cons | rfl)); all_goals fail) | fail) (by first | ((repeat' (first | exact FillA.nil | exact Sp.done | apply FillA.cons | apply Sp.put | apply Sp.skip | (simp only [cellsA]; rfl) | rfl)); all_goals fail) | fail)) rfl rfl ?_)); case wtq => exact wtA) | (show AWL _ _ _ (⟨_, .store _ _ _, _, _, _, _⟩ :: _) _ _ _; refine awl_hw wtA (st_store T0 rfl rfl rfl rfl rfl (by first | assumption | (simp only [cellsA]; rfl)) rfl rfl rfl rcA rcA trivial ?_)) | refine awl_nil ?_)
    refine awl_hw wtA (st_bsl T0 rfl rfl rfl rfl rfl rcA rfl rfl rfl rfl (by simp only [List.map_cons, List.map_nil, cellsA]; rfl) ?_)
    intro g99
    skip
    refine awl_hw wtA (st_app T0 rfl rfl rfl rfl rfl rfl rfl rfl rfl rcA rcA rfl rfl hn1 (by omega) (fun _ _ => trivial) ?_)
    intro a13 c13 p13
    repeat (first | refine awp_seq ?_ | ((first | (show AWL _ _ _ (⟨_, .fieldAddr _ _ _, _, _, _, _⟩ :: _) _ _ _; refine awl_pw ?wtq (pv_fa T0 rfl rfl rfl (by simp; rfl)) rfl rfl ?_)); case wtq => exact wtA) | (show AWL _ _ _ (⟨_, .store _ _ _, _, _, _, _⟩ :: _) _ _ _; refine awl_hw wtA (st_store T0 rfl rfl rfl rfl rfl (by first | assumption | (simp only [cellsA]; rfl)) rfl rfl rfl rcA rcA trivial ?_)) | refine awl_nil ?_)
    refine awp_cut _ (awp_weak ssA rcA (ac_14 (g3 := g3) (g5 := g5) (g6 := g6) (g7 := g7) (g15 := g15) (k := k) (n := n2) (cc := c2) (m := m) (o := o) (dl := dl) (c := b.cons.getD k default) (a := a2) (rows := r2) (e1 := .cl g3 81 [intA b.houses, .t (R.consT false b.cons)]) (e2 := .cl g5 119 [intA m.ex, .t (C.housT false m.hou), .v (.slice a13 (n1 + 1) c13)]) (e3 := .rw (.slice a13 (n1 + 1) c13) 122 3 (r1 ++ [C.conRow ⟨(b.cons.getD k default).frm, (b.cons.getD k default).to, (b.cons.getD k default).num⟩])) (e4 := .cl g7 119 [intA m.ex, .t (C.housT false m.hou), .v (.slice a3 n3 c3)]) (e5 := .rw (.slice a3 n3 c3) 122 3 r3) (by omega) rfl)) ?_
    rintro s h ⟨rfl, rfl⟩
    refine awp_cut (fun s h => ∃ a2 n2 c2 r2, r2 = (cL b F2 (k + 1)).map C.conRow ∧ r2.length = n2 ∧ s = [(3, .v (ptrV g3)), (5, .v (ptrV g5)), (6, .v (ptrV g6)), (7, .v (ptrV g7)), (8, .t (intsT true o)), (12, .t (intsT true dl)), (14, intA k), (15, .v (ptrV g15))] ∧ h = [.cl g15 93 (R.conRow (b.cons.getD k default)), .cl g3 81 [intA b.houses, .t (R.consT false b.cons)], .cl g5 119 [intA m.ex, .t (C.housT false m.hou), .v (.slice a13 (n1 + 1) c13)], .rw (.slice a13 (n1 + 1) c13) 122 3 (r1 ++ [C.conRow ⟨(b.cons.getD k default).frm, (b.cons.getD k default).to, (b.cons.getD k default).num⟩]), .cl g7 119 [intA m.ex, .t (C.housT false m.hou), .v (.slice a3 n3 c3)], .rw (.slice a3 n3 c3) 122 3 r3, .cl g6 119 [intA m.ex, .t (C.housT false m.hou), .v (.slice a2 n2 c2)], .rw (.slice a2 n2 c2) 122 3 r2]) ?_ ?_
    · by_cases ho2 : o.getD k 0 < (b.cons.getD k default).num
      · have d3 := decide_eq_true ho2
        repeat (first | refine awp_cond_t rfl (by first | rfl | assumption | exact dT (by omega)) ?_)
        refine awp_mono (awp_weak ssA rcA (ac_15 (g3 := g3) (g5 := g5) (g6 := g6) (g7 := g7) (g15 := g15) (k := k) (n := n2) (cc := c2) (m := m) (o := o) (dl := dl) (c := b.cons.getD k default) (a := a2) (rows := r2) (e1 := .cl g3 81 [intA b.houses, .t (R.consT false b.cons)]) (e2 := .cl g5 119 [intA m.ex, .t (C.housT false m.hou), .v (.slice a13 (n1 + 1) c13)]) (e3 := .rw (.slice a13 (n1 + 1) c13) 122 3 (r1 ++ [C.conRow ⟨(b.cons.getD k default).frm, (b.cons.getD k default).to, (b.cons.getD k default).num⟩])) (e4 := .cl g7 119 [intA m.ex, .t (C.housT false m.hou), .v (.slice a3 n3 c3)]) (e5 := .rw (.slice a3 n3 c3) 122 3 r3) (by omega) ho hn2 hl2 rfl)) ?_
        rintro e s1 h1 ⟨he, s', h', k1, k2, a', cc', e1, e2⟩
        subst he e1 e2
        refine cut_n ⟨a', n2 + 1, cc', _, ?_, ?_, rfl, rfl⟩ k1 k2
        · have hp2 : 0 < F2 k := by rw [hF2k]; omega
          rw [cL_yes hp2, List.map_append, ← hr2, hF2k]
          rfl
        · rw [List.length_append, hn2]; rfl
      · have d3 := decide_eq_false ho2
        repeat (first | refine awp_skip ?_ | refine awp_cond_f rfl (by first | rfl | assumption | exact dF (by omega)) ?_)
        refine cut_n ⟨a2, n2, c2, r2, ?_, hn2, rfl, rfl⟩ ssA rcA
        have hp2 : ¬ 0 < F2 k := by rw [hF2k]; omega
        rw [cL_no hp2, ← hr2]
    clear hr2 hn2 hl2
    rintro s h ⟨a2, n2, c2, r2, hr2, hn2, rfl, rfl⟩
    have hq1 : r1 ++ [C.conRow ⟨(b.cons.getD k default).frm, (b.cons.getD k default).to, (b.cons.getD k default).num⟩] = (cL b F1 (k + 1)).map C.conRow := by
      rw [cL_yes hp1, List.map_append, ← hr1, hF1k]
      rfl
    have hq1l : (r1 ++ [C.conRow ⟨(b.cons.getD k default).frm, (b.cons.getD k default).to, (b.cons.getD k default).num⟩]).length = n1 + 1 := by rw [List.length_append, hn1]; rfl
    generalize r1 ++ [C.conRow ⟨(b.cons.getD k default).frm, (b.cons.getD k default).to, (b.cons.getD k default).num⟩] = r1' at hq1 hq1l ⊢
    by_cases hfp : 0 < f k
    · have d4 : decide (0 < dl.getD k 0) = true := by rw [hdk']; exact decide_eq_true hfp
      repeat (first | refine awp_seq ?_ | refine awp_region_lit rfl ?_ | with_reducible refine then_n ?_ | refine awp_cond_t rfl (by first | rfl | assumption | exact dT (by omega)) ?_ | ((first | (show AWL _ _ _ (⟨_, .move _, _, _, _, _⟩ :: _) _ _ _; refine awl_pw ?wtq (pv_move rfl rfl) rfl rfl ?_) | (show AWL _ _ _ (⟨_, .load _ _, _, _, _, _⟩ :: _) _ _ _; refine awl_lw ?wtq (lv_elt_sc T0 rfl rfl rfl rfl) rfl rfl rfl ?_) | (show AWL _ _ _ (⟨_, .indexAddr _ _ _, _, _, _, _⟩ :: _) _ _ _; refine awl_pw ?wtq (pv_ix_t T0 rfl rfl rfl rfl (by omega) ixA) rfl rfl ?_) | (show AWL _ _ _ (⟨_, .binOp .gtr _ _ _ _, _, _, _, _⟩ :: _) _ _ _; refine awl_pw ?wtq (pv_gtr rfl rfl rfl) rfl rfl ?_)); case wtq => exact wtA) | refine awl_nil ?_)
      refine awp_cutB _ (awp_weak ssA rcA (ac_17 (g3 := g3) (g5 := g5) (g6 := g6) (g7 := g7) (g15 := g15) (k := k) (n := n3) (cc := c3) (m := m) (o := o) (dl := dl) (c := b.cons.getD k default) (a := a3) (rows := r3) (e1 := .cl g3 81 [intA b.houses, .t (R.consT false b.cons)]) (e2 := .cl g5 119 [intA m.ex, .t (C.housT false m.hou), .v (.slice a13 (n1 + 1) c13)]) (e3 := .rw (.slice a13 (n1 + 1) c13) 122 3 r1') (e4 := .cl g6 119 [intA m.ex, .t (C.housT false m.hou), .v (.slice a2 n2 c2)]) (e5 := .rw (.slice a2 n2 c2) 122 3 r2) (by omega) hn3 hl3 rfl)) ?_
      rintro s h ⟨a', cc', rfl, rfl⟩
      repeat (first | refine awp_region_lit rfl ?_ | ((first | (show AWL _ _ _ (⟨_, .move _, _, _, _, _⟩ :: _) _ _ _; refine awl_pw ?wtq (pv_move rfl rfl) rfl rfl ?_) | (show AWL _ _ _ (⟨_, .assign _, _, _, _, _⟩ :: _) _ _ _; refine awl_pw ?wtq (pv_assign rfl rfl) rfl rfl ?_) | (show AWL _ _ _ (⟨_, .binOp .add _ _ _ _, _, _, _, _⟩ :: _) _ _ _; refine awl_pw ?wtq (pv_add rfl rfl rfl (by first | assumption | exact wr64 (by omega))) rfl rfl ?_)); case wtq => exact wtA) | refine awl_nil ?_)
      refine rnd_n _ _ _ ?_ ⟨k + 1, a13, a2, a', n1 + 1, n2, n3 + 1, c13, c2, cc', r1', r2, _, hlt, rfl, hq1, hr2, ?_, hq1l, hn2, ?_, rfl, rfl⟩ ssA rcA
      · omega
      · rw [cL_yes hfp, List.map_append, ← hr3, hdk']
        rfl
      · rw [List.length_append, hn3]
        rfl
    · have d4 : decide (0 < dl.getD k 0) = false := by rw [hdk']; exact decide_eq_false hfp
      repeat (first | refine awp_seq ?_ | refine awp_region_lit rfl ?_ | refine awp_skip ?_ | with_reducible refine then_n ?_ | refine awp_cond_f rfl (by first | rfl | assumption | exact dF (by omega)) ?_ | ((first | (show AWL _ _ _ (⟨_, .move _, _, _, _, _⟩ :: _) _ _ _; refine awl_pw ?wtq (pv_move rfl rfl) rfl rfl ?_) | (show AWL _ _ _ (⟨_, .assign _, _, _, _, _⟩ :: _) _ _ _; refine awl_pw ?wtq (pv_assign rfl rfl) rfl rfl ?_) | (show AWL _ _ _ (⟨_, .load _ _, _, _, _, _⟩ :: _) _ _ _; refine awl_lw ?wtq (lv_elt_sc T0 rfl rfl rfl rfl) rfl rfl rfl ?_) | (show AWL _ _ _ (⟨_, .indexAddr _ _ _, _, _, _, _⟩ :: _) _ _ _; refine awl_pw ?wtq (pv_ix_t T0 rfl rfl rfl rfl (by omega) ixA) rfl rfl ?_) | (show AWL _ _ _ (⟨_, .binOp .add _ _ _ _, _, _, _, _⟩ :: _) _ _ _; refine awl_pw ?wtq (pv_add rfl rfl rfl (by first | assumption | exact wr64 (by omega))) rfl rfl ?_) | (show AWL _ _ _ (⟨_, .binOp .gtr _ _ _ _, _, _, _, _⟩ :: _) _ _ _; refine awl_pw ?wtq (pv_gtr rfl rfl rfl) rfl rfl ?_)); case wtq => exact wtA) | refine awl_nil ?_)
      refine rnd_n _ _ _ ?_ ⟨k + 1, a13, a2, a3, n1 + 1, n2, n3, c13, c2, c3, r1', r2, r3, hlt, rfl, hq1, hr2, ?_, hq1l, hn2, hn3, rfl, rfl⟩ ssA rcA
      · omega
      · rw [cL_no hfp, ← hr3]
  obtain rfl : k = b.cons.length := by omega
  have e1 : n1 = (cL b F1 b.cons.length).length := by rw [← hn1, hr1, List.length_map]
  have e2 : n2 = (cL b F2 b.cons.length).length := by rw [← hn2, hr2, List.length_map]
  have e3 : n3 = (cL b f b.cons.length).length := by rw [← hn3, hr3, List.length_map]
  subst e1 e2 e3 hr1 hr2 hr3
  refine awp_ghost (ghost_freeze_cell (g := g5) (j := 2) (v := .slice a1 (cL b F1 b.cons.length).length c1) (E := 122) (sz := 3) (n := (cL b F1 b.cons.length).length) (rows := (cL b F1 b.cons.length).map C.conRow) (fun q => C.conL ((cL b F1 b.cons.length).getD q default)) rcA rcA rfl rfl hn1 (rows_tree (cL b F1 b.cons.length) C.conRow C.conL (fun _ => rfl))) ?_
  refine awp_ghost (ghost_freeze_cell (g := g6) (j := 2) (v := .slice a2 (cL b F2 b.cons.length).length c2) (E := 122) (sz := 3) (n := (cL b F2 b.cons.length).length) (rows := (cL b F2 b.cons.length).map C.conRow) (fun q => C.conL ((cL b F2 b.cons.length).getD q default)) rcA rcA rfl rfl hn2 (rows_tree (cL b F2 b.cons.length) C.conRow C.conL (fun _ => rfl))) ?_
  refine awp_ghost (ghost_freeze_cell (g := g7) (j := 2) (v := .slice a3 (cL b f b.cons.length).length c3) (E := 122) (sz := 3) (n := (cL b f b.cons.length).length) (rows := (cL b f b.cons.length).map C.conRow) (fun q => C.conL ((cL b f b.cons.length).getD q default)) rcA rcA rfl rfl hn3 (rows_tree (cL b f b.cons.length) C.conRow C.conL (fun _ => rfl))) ?_
  have g1 := cL_len b F1 b.cons.length
  have g2' := cL_len b F2 b.cons.length
  have g3' := cL_len b f b.cons.length
  have hRF : PCall Try.prog 34 [C.mktA false true (mkC m b F1)] (fun r => r = intA (C.faultN (mkC m b F1))) := C.acall_args (C.reffault_p (mkC m b F1) (by show m.hou.length ≤ _; omega) (by show (cL b F1 b.cons.length).length ≤ _; omega)) (.cons (C.mkt_le false true _) .nil)
  by_cases hf0 : C.faultN (mkC m b F1) = 0
  case neg =>
    have d5 : decide (C.faultN (mkC m b F1) ≠ 0) = true := decide_eq_true hf0
    repeat (first | refine awp_seq ?_ | refine awp_region_lit rfl ?_ | refine awp_exit ?_ | with_reducible refine then_n ?_ | refine awp_cond_f rfl (by first | rfl | assumption | exact dF (by omega)) ?_ | ((first | (show AWL _ _ _ (⟨_, .move _, _, _, _, _⟩ :: _) _ _ _; refine awl_pw ?wtq (pv_move rfl rfl) rfl rfl ?_) | (show AWL _ _ _ (⟨_, .load _ _, _, _, _, _⟩ :: _) _ _ _; refine awl_lw ?wtq (lv_cl1 T0 rfl rfl rfl rcA raA) rfl rfl rfl ?_) | (show AWL _ _ _ (⟨_, .load _ _, _, _, _, _⟩ :: _) _ _ _; refine awl_lw ?wtq (lv_cla T0 rfl rfl rfl rcA rfl) rfl rfl rfl ?_) | (show AWL _ _ _ (⟨_, .fieldAddr _ _ _, _, _, _, _⟩ :: _) _ _ _; refine awl_pw ?wtq (pv_fa T0 rfl rfl rfl (by simp; rfl)) rfl rfl ?_) | (show AWL _ _ _ (⟨_, .binOp .lss _ _ _ _, _, _, _, _⟩ :: _) _ _ _; refine awl_pw ?wtq (pv_lss rfl rfl rfl) rfl rfl ?_) | (show AWL _ _ _ (⟨_, .call ⟨.builtin .len, _, _⟩, _, _, _, _⟩ :: _) _ _ _; refine awl_pw ?wtq (pv_len_t T0 rfl rfl rfl) rfl rfl ?_)); case wtq => exact wtA) | refine awl_nil ?_)
    refine awl_hw wtA (st_call T0 (hRF) rfl rfl rfl rfl (by first | exact callee_lit | exact callee_v | exact callee_fn | assumption) rcA raA rfl ?_)
    rintro _ rfl
    repeat (first | refine awp_seq ?_ | refine awp_region_lit rfl ?_ | with_reducible refine then_n ?_ | refine awp_cond_t rfl (by first | rfl | assumption | exact dT (by omega)) ?_ | ((first | (show AWL _ _ _ (⟨_, .move _, _, _, _, _⟩ :: _) _ _ _; refine awl_pw ?wtq (pv_move rfl rfl) rfl rfl ?_) | (show AWL _ _ _ (⟨_, .load _ _, _, _, _, _⟩ :: _) _ _ _; refine awl_lw ?wtq (lv_cla T0 rfl rfl rfl rcA rfl) rfl rfl rfl ?_) | (show AWL _ _ _ (⟨_, .binOp .neq _ _ _ _, _, _, _, _⟩ :: _) _ _ _; refine awl_pw ?wtq (pv_neq rfl rfl rfl) rfl rfl ?_) | (show AWL _ _ _ (⟨_, .pick _ _ _, _, _, _, _⟩ :: _) _ _ _; refine awl_pw ?wtq (pv_pick_t rfl rfl tfA rfl) rfl rfl ?_)); case wtq => exact wtA) | refine awl_sk (wf_some rfl rfl rfl rfl tfA) rfl rfl ?_ | refine awl_nil ?_)
    refine awl_hw wtA (st_call T0 (rung_p) rfl rfl rfl rfl (by first | exact callee_lit | exact callee_v | exact callee_fn | assumption) rcA raA rfl ?_)
    rintro _ rfl
    repeat (first | refine awp_ret ?_ | with_reducible refine then_r ?_ | ((first | (show AWL _ _ _ (⟨_, .assign _, _, _, _, _⟩ :: _) _ _ _; refine awl_pw ?wtq (pv_assign rfl rfl) rfl rfl ?_)); case wtq => exact wtA) | refine awl_nil ?_)
    exact body_p (.cons rfl .nil) rfl
  rw [hf0] at hRF
  have hPO := C.refhas_p false true (mkC m b F1) (C.vmkt hf0)
  cases hpo : C.possB (mkC m b F1)
  · rw [hpo] at hPO
    repeat (first | refine awp_seq ?_ | refine awp_region_lit rfl ?_ | refine awp_exit ?_ | with_reducible refine then_n ?_ | refine awp_cond_f rfl (by first | rfl | assumption | exact dF (by omega)) ?_ | ((first | (show AWL _ _ _ (⟨_, .move _, _, _, _, _⟩ :: _) _ _ _; refine awl_pw ?wtq (pv_move rfl rfl) rfl rfl ?_) | (show AWL _ _ _ (⟨_, .load _ _, _, _, _, _⟩ :: _) _ _ _; refine awl_lw ?wtq (lv_cl1 T0 rfl rfl rfl rcA raA) rfl rfl rfl ?_) | (show AWL _ _ _ (⟨_, .load _ _, _, _, _, _⟩ :: _) _ _ _; refine awl_lw ?wtq (lv_cla T0 rfl rfl rfl rcA rfl) rfl rfl rfl ?_) | (show AWL _ _ _ (⟨_, .fieldAddr _ _ _, _, _, _, _⟩ :: _) _ _ _; refine awl_pw ?wtq (pv_fa T0 rfl rfl rfl (by simp; rfl)) rfl rfl ?_) | (show AWL _ _ _ (⟨_, .binOp .lss _ _ _ _, _, _, _, _⟩ :: _) _ _ _; refine awl_pw ?wtq (pv_lss rfl rfl rfl) rfl rfl ?_) | (show AWL _ _ _ (⟨_, .call ⟨.builtin .len, _, _⟩, _, _, _, _⟩ :: _) _ _ _; refine awl_pw ?wtq (pv_len_t T0 rfl rfl rfl) rfl rfl ?_)); case wtq => exact wtA) | refine awl_nil ?_)
    refine awl_hw wtA (st_call T0 (hRF) rfl rfl rfl rfl (by first | exact callee_lit | exact callee_v | exact callee_fn | assumption) rcA raA rfl ?_)
    rintro _ rfl
    repeat (first | ((first | (show AWL _ _ _ (⟨_, .move _, _, _, _, _⟩ :: _) _ _ _; refine awl_pw ?wtq (pv_move rfl rfl) rfl rfl ?_) | (show AWL _ _ _ (⟨_, .load _ _, _, _, _, _⟩ :: _) _ _ _; refine awl_lw ?wtq (lv_cla T0 rfl rfl rfl rcA rfl) rfl rfl rfl ?_) | (show AWL _ _ _ (⟨_, .binOp .neq _ _ _ _, _, _, _, _⟩ :: _) _ _ _; refine awl_pw ?wtq (pv_neq rfl rfl rfl) rfl rfl ?_)); case wtq => exact wtA))
    refine awl_hw wtA (st_call T0 (hPO) rfl rfl rfl rfl (by first | exact callee_lit | exact callee_v | exact callee_fn | assumption) rcA raA rfl ?_)
    rintro _ rfl
    repeat (first | refine awp_seq ?_ | refine awp_region_lit rfl ?_ | with_reducible refine then_n ?_ | refine awp_cond_t rfl (by first | rfl | assumption | exact dT (by omega)) ?_ | ((first | (show AWL _ _ _ (⟨_, .unOp .not _ _, _, _, _, _⟩ :: _) _ _ _; refine awl_pw ?wtq (pv_not rfl rfl) rfl rfl ?_) | (show AWL _ _ _ (⟨_, .pick _ _ _, _, _, _, _⟩ :: _) _ _ _; refine awl_pw ?wtq (pv_pick_f rfl rfl tfA rfl) rfl rfl ?_)); case wtq => exact wtA) | refine awl_nil ?_)
    refine awl_hw wtA (st_call T0 (rung_p) rfl rfl rfl rfl (by first | exact callee_lit | exact callee_v | exact callee_fn | assumption) rcA raA rfl ?_)
    rintro _ rfl
    repeat (first | refine awp_ret ?_ | with_reducible refine then_r ?_ | ((first | (show AWL _ _ _ (⟨_, .assign _, _, _, _, _⟩ :: _) _ _ _; refine awl_pw ?wtq (pv_assign rfl rfl) rfl rfl ?_)); case wtq => exact wtA) | refine awl_nil ?_)
    exact body_p (.cons rfl .nil) rfl
  rw [hpo] at hPO
  have hA1 := alike_of false true false true hf0 hpo (hleft hf0) rfl (by show (cL b F2 b.cons.length).length ≤ _; omega)
  have hA2 := alike_of false true false true hf0 hpo (hfew hf0) rfl (by show (cL b f b.cons.length).length ≤ _; omega)
  repeat (first | refine awp_seq ?_ | refine awp_region_lit rfl ?_ | refine awp_exit ?_ | with_reducible refine then_n ?_ | refine awp_cond_f rfl (by first | rfl | assumption | exact dF (by omega)) ?_ | ((first | (show AWL _ _ _ (⟨_, .move _, _, _, _, _⟩ :: _) _ _ _; refine awl_pw ?wtq (pv_move rfl rfl) rfl rfl ?_) | (show AWL _ _ _ (⟨_, .load _ _, _, _, _, _⟩ :: _) _ _ _; refine awl_lw ?wtq (lv_cl1 T0 rfl rfl rfl rcA raA) rfl rfl rfl ?_) | (show AWL _ _ _ (⟨_, .load _ _, _, _, _, _⟩ :: _) _ _ _; refine awl_lw ?wtq (lv_cla T0 rfl rfl rfl rcA rfl) rfl rfl rfl ?_) | (show AWL _ _ _ (⟨_, .fieldAddr _ _ _, _, _, _, _⟩ :: _) _ _ _; refine awl_pw ?wtq (pv_fa T0 rfl rfl rfl (by simp; rfl)) rfl rfl ?_) | (show AWL _ _ _ (⟨_, .binOp .lss _ _ _ _, _, _, _, _⟩ :: _) _ _ _; refine awl_pw ?wtq (pv_lss rfl rfl rfl) rfl rfl ?_) | (show AWL _ _ _ (⟨_, .call ⟨.builtin .len, _, _⟩, _, _, _, _⟩ :: _) _ _ _; refine awl_pw ?wtq (pv_len_t T0 rfl rfl rfl) rfl rfl ?_)); case wtq => exact wtA) | refine awl_nil ?_)
  refine awl_hw wtA (st_call T0 (hRF) rfl rfl rfl rfl (by first | exact callee_lit | exact callee_v | exact callee_fn | assumption) rcA raA rfl ?_)
  rintro _ rfl
  repeat (first | ((first | (show AWL _ _ _ (⟨_, .move _, _, _, _, _⟩ :: _) _ _ _; refine awl_pw ?wtq (pv_move rfl rfl) rfl rfl ?_) | (show AWL _ _ _ (⟨_, .load _ _, _, _, _, _⟩ :: _) _ _ _; refine awl_lw ?wtq (lv_cla T0 rfl rfl rfl rcA rfl) rfl rfl rfl ?_) | (show AWL _ _ _ (⟨_, .binOp .neq _ _ _ _, _, _, _, _⟩ :: _) _ _ _; refine awl_pw ?wtq (pv_neq rfl rfl rfl) rfl rfl ?_)); case wtq => exact wtA))
  refine awl_hw wtA (st_call T0 (hPO) rfl rfl rfl rfl (by first | exact callee_lit | exact callee_v | exact callee_fn | assumption) rcA raA rfl ?_)
  rintro _ rfl
  repeat (first | refine awp_seq ?_ | refine awp_region_lit rfl ?_ | refine awp_skip ?_ | with_reducible refine then_n ?_ | refine awp_cond_f rfl (by first | rfl | assumption | exact dF (by omega)) ?_ | ((first | (show AWL _ _ _ (⟨_, .load _ _, _, _, _, _⟩ :: _) _ _ _; refine awl_lw ?wtq (lv_cla T0 rfl rfl rfl rcA rfl) rfl rfl rfl ?_) | (show AWL _ _ _ (⟨_, .unOp .not _ _, _, _, _, _⟩ :: _) _ _ _; refine awl_pw ?wtq (pv_not rfl rfl) rfl rfl ?_) | (show AWL _ _ _ (⟨_, .pick _ _ _, _, _, _, _⟩ :: _) _ _ _; refine awl_pw ?wtq (pv_pick_f rfl rfl tfA rfl) rfl rfl ?_)); case wtq => exact wtA) | refine awl_nil ?_)
  refine awl_hw wtA (st_call T0 (hA1) rfl rfl rfl rfl (by first | exact callee_lit | exact callee_v | exact callee_fn | assumption) rcA raA rfl ?_)
  rintro _ rfl
  repeat (first | ((first | (show AWL _ _ _ (⟨_, .move _, _, _, _, _⟩ :: _) _ _ _; refine awl_pw ?wtq (pv_move rfl rfl) rfl rfl ?_) | (show AWL _ _ _ (⟨_, .load _ _, _, _, _, _⟩ :: _) _ _ _; refine awl_lw ?wtq (lv_cla T0 rfl rfl rfl rcA rfl) rfl rfl rfl ?_)); case wtq => exact wtA))
  refine awl_hw wtA (st_call T0 (hA2) rfl rfl rfl rfl (by first | exact callee_lit | exact callee_v | exact callee_fn | assumption) rcA raA rfl ?_)
  rintro _ rfl
  repeat (first | ((first | (show AWL _ _ _ (⟨_, .move _, _, _, _, _⟩ :: _) _ _ _; refine awl_pw ?wtq (pv_move rfl rfl) rfl rfl ?_) | (show AWL _ _ _ (⟨_, .pick _ _ _, _, _, _, _⟩ :: _) _ _ _; refine awl_pw ?wtq (pv_pick_t rfl rfl tfA rfl) rfl rfl ?_)); case wtq => exact wtA))
  refine awl_hw wtA (st_call T0 (rung_p) rfl rfl rfl rfl (by first | exact callee_lit | exact callee_v | exact callee_fn | assumption) rcA raA rfl ?_)
  rintro _ rfl
  repeat (first | refine awp_ret ?_ | ((first | (show AWL _ _ _ (⟨_, .assign _, _, _, _, _⟩ :: _) _ _ _; refine awl_pw ?wtq (pv_assign rfl rfl) rfl rfl ?_) | (show AWL _ _ _ (⟨_, .pick _ _ _, _, _, _, _⟩ :: _) _ _ _; refine awl_pw ?wtq (pv_pick_t rfl rfl tfA rfl) rfl rfl ?_)); case wtq => exact wtA) | refine awl_nil ?_)
  exact body_p (.cons rfl .nil) rfl
end Go.Proofs.Ytlpknbneilgjkaa
