/- The law PostLast: its walk. (appends: ordOne) -/
import Derived.Test.YteaoclpikdmkiaaQi
import Derived.Test.YteaoclpikdmkiaaOt
import Derived.Test.YteaoclpikdmkiaaMs
import Derived.Test.YteaoclpikdmkiaaTc
import Derived.Test.YteaoclpikdmkiaaPar
import Derived.Test.YteaoclpikdmkiaaOj
import Derived.Test.YteaoclpikdmkiaaOs
import Derived.Test.YteaoclpikdmkiaaTlw
import Derived.Test.YteaoclpikdmkiaaTy
import Derived.Test.YteaoclpikdmkiaaTz
import Derived.Test.YteaoclpikdmkiaaTv
namespace Go.Proofs.Yteaoclpikdmkiaa
open Go Go.RowKit Go.Tl
set_option linter.unusedVariables false
set_option linter.unusedSimpArgs false
set_option maxRecDepth 100000
set_option maxHeartbeats 4000000
attribute [local irreducible] AWP AWL AOp PV LV AWT AWE AWC
section
variable {g3 g5 : Nat} {p : PostD} {m : OrdD} {u1 : AV}
theorem qs_1 (hl : p.ords.length ≤ 1000000000000000000) (hb : (p.ords.length + 1) * 40 ≤ 140737488355328) {ops : Array Oper} (h : regF Try.f14 1 = some ops) :
    AWP Try.prog Try.f14.ntmps none (.region 1 ops true) (cutQ (fun s h => ∃ g7 a c, s = [(1, u1), (3, .v (ptrV g3)), (5, .v (ptrV g5)), (7, .v (ptrV g7))] ∧ h = [.cl g3 24 [.t (ordsT false p.ords)], .cl g5 58 (ordRow m), .cl g7 24 [.v (.slice a (p.ords.length + 1) c)], .rw (.slice a (p.ords.length + 1) c) 58 5 (p.ords.map ordRow ++ [ordRow m])]))
      [(1, u1), (3, .v (ptrV g3)), (5, .v (ptrV g5))] [.cl g3 24 [.t (ordsT false p.ords)], .cl g5 58 (ordRow m)] := by
  have k2 : (0 + p.ords.length) * 40 ≤ 140737488355328 := Nat.le_trans (Nat.mul_le_mul_right 40 (by rw [Nat.zero_add]; exact Nat.le_succ _)) hb
  have k4 : (0 + p.ords.length + 1) * 40 ≤ 140737488355328 := by rw [Nat.zero_add]; exact hb
  obtain ⟨k1, k3⟩ : 0 + p.ords.length ≤ maxLen ∧ 0 + p.ords.length + 1 ≤ maxLen := by unfold maxLen; omega
  cases h
  refine awp_C T0 (.op 1 0 (.op 2 1 (.op 4 1 (.alt (.op 0 2 (.alt (.op 3 2 (.alt (.op 5 2 (.alt (.op 6 2 (.op 7 0 (.op 8 2 (.op 9 2 .stop)))) (.op 8 2 (.op 6 2 (.op 7 0 (.op 9 2 .stop)))))) (.op 8 2 (.op 5 2 (.op 6 2 (.op 7 0 (.op 9 2 .stop))))))) (.alt (.op 5 2 (.alt (.op 3 2 (.alt (.op 6 2 (.op 7 0 (.op 8 2 (.op 9 2 .stop)))) (.op 8 2 (.op 6 2 (.op 7 0 (.op 9 2 .stop)))))) (.op 8 2 (.op 3 2 (.op 6 2 (.op 7 0 (.op 9 2 .stop))))))) (.op 8 2 (.alt (.op 3 2 (.op 5 2 (.op 6 2 (.op 7 0 (.op 9 2 .stop))))) (.op 5 2 (.op 3 2 (.op 6 2 (.op 7 0 (.op 9 2 .stop)))))))))) (.alt (.op 5 2 (.alt (.op 0 2 (.alt (.op 3 2 (.alt (.op 6 2 (.op 7 0 (.op 8 2 (.op 9 2 .stop)))) (.op 8 2 (.op 6 2 (.op 7 0 (.op 9 2 .stop)))))) (.op 8 2 (.op 3 2 (.op 6 2 (.op 7 0 (.op 9 2 .stop))))))) (.op 8 2 (.op 0 2 (.op 3 2 (.op 6 2 (.op 7 0 (.op 9 2 .stop)))))))) (.op 8 2 (.alt (.op 0 2 (.alt (.op 3 2 (.op 5 2 (.op 6 2 (.op 7 0 (.op 9 2 .stop))))) (.op 5 2 (.op 3 2 (.op 6 2 (.op 7 0 (.op 9 2 .stop))))))) (.op 5 2 (.op 0 2 (.op 3 2 (.op 6 2 (.op 7 0 (.op 9 2 .stop))))))))))))) [.cl g3 _ _, .cl g5 _ _] (by kernel_rfl) (by kernel_rfl) (by kernel_rfl) (by solve | repeat' constructor) ?_
  refine awc_po rfl (wt_none rfl) (pv_fa T0 rfl rfl rfl (by simp; rfl)) rfl rfl ?_
  refine awc_lo rfl (wt_none rfl) (lv_cl1 T0 rfl rfl rfl (by solve | repeat' constructor) (by first | rfl | assumption)) rfl rfl rfl ?_
  refine awc_lo rfl (wt_none rfl) (lv_cla T0 rfl rfl rfl (by solve | repeat' constructor) rfl) rfl rfl rfl ?_
  refine awc_alt ?_ ?_
  · skip
    refine awc_h (hm := []) rfl (wt_none rfl) ?sub6 rfl (st_bsl T0 rfl rfl rfl rfl rfl (by solve | repeat' constructor) rfl rfl rfl rfl (by simp only [List.map_cons, List.map_nil, cellsA]; rfl) ?_)
    case sub6 => exact (by solve | repeat' constructor)
    intro g15
    refine awc_alt ?_ ?_
    · skip
      refine awc_h (hm := _) rfl (wt_none rfl) ?sub11 rfl (st_apptB_o (n := 0) T0 rfl rfl rfl rfl rfl rfl rfl rfl (by solve | repeat' constructor) (ordOne _) rfl k1 k2 rfl ?_)
      case sub11 => exact (by solve | repeat' constructor)
      intro a18 c18 p18
      refine awc_alt ?_ ?_
      · skip
        refine awc_h (hm := []) rfl (wt_none rfl) ?sub16 rfl (st_bsl T0 rfl rfl rfl rfl rfl (by solve | repeat' constructor) rfl rfl rfl rfl (by simp only [List.map_cons, List.map_nil, cellsA]; rfl) ?_)
        case sub16 => exact (by solve | repeat' constructor)
        intro g20
        refine awc_alt ?_ ?_
        · skip
          refine awc_h (hm := _) rfl (wt_none rfl) ?sub21 rfl (st_appB_o (n := 0 + p.ords.length) T0 rfl rfl rfl rfl rfl rfl rfl rfl (by solve | repeat' constructor) (by solve | repeat' constructor) rfl rfl (by simp) k3 k4 ?_)
          case sub21 => exact (by solve | repeat' constructor)
          intro a21 c21 p21
          refine awc_n1 rfl (wt_none rfl) (pv_build T0 rfl rfl rfl (by simp only [Value.cells, List.toList_toArray, List.map_cons, List.map_nil]; rfl) (by first | ((repeat' (first | exact BParts.nil | apply BParts.cons | rfl)); all_goals fail) | fail) (by first | ((repeat' (first | exact FillA.nil | exact Sp.done | apply FillA.cons | apply Sp.put | apply Sp.skip | (simp only [cellsA]; rfl) | rfl)); all_goals fail) | fail)) rfl rfl rfl ?_
          refine awc_h (hm := []) rfl (wt_none rfl) ?sub25 rfl (st_alloc T0 rfl rfl rfl rfl (by simp only [Value.cells, List.toList_toArray, List.map_cons, List.map_nil]; rfl) ?_)
          case sub25 => exact (by solve | repeat' constructor)
          intro g7
          refine awc_h (hm := _) rfl (wt_none rfl) ?sub28 rfl (st_store_o T0 rfl rfl rfl rfl rfl (by first | assumption | (simp only [cellsA]; rfl)) rfl rfl rfl (by solve | repeat' constructor) (by solve | repeat' constructor) ?_)
          case sub28 => exact (by solve | repeat' constructor)
          refine awc_end ?_
          simp only [List.nil_append, Nat.zero_add, ordRows_range]
          exact cut_n ⟨_, _, _, rfl, rfl⟩ (by first | ((repeat' (first | exact True.intro | refine ⟨rfl, ?_⟩)); all_goals fail) | fail) (by solve | repeat' constructor)
        refine awc_h (hm := []) rfl (wt_none rfl) ?sub33 rfl (st_alloc T0 rfl rfl rfl rfl (by simp only [Value.cells, List.toList_toArray, List.map_cons, List.map_nil]; rfl) ?_)
        case sub33 => exact (by solve | repeat' constructor)
        intro g7
        refine awc_h (hm := _) rfl (wt_none rfl) ?sub36 rfl (st_appB_o (n := 0 + p.ords.length) T0 rfl rfl rfl rfl rfl rfl rfl rfl (by solve | repeat' constructor) (by solve | repeat' constructor) rfl rfl (by simp) k3 k4 ?_)
        case sub36 => exact (by solve | repeat' constructor)
        intro a21 c21 p21
        refine awc_n1 rfl (wt_none rfl) (pv_build T0 rfl rfl rfl (by simp only [Value.cells, List.toList_toArray, List.map_cons, List.map_nil]; rfl) (by first | ((repeat' (first | exact BParts.nil | apply BParts.cons | rfl)); all_goals fail) | fail) (by first | ((repeat' (first | exact FillA.nil | exact Sp.done | apply FillA.cons | apply Sp.put | apply Sp.skip | (simp only [cellsA]; rfl) | rfl)); all_goals fail) | fail)) rfl rfl rfl ?_
        refine awc_h (hm := _) rfl (wt_none rfl) ?sub40 rfl (st_store_o T0 rfl rfl rfl rfl rfl (by first | assumption | (simp only [cellsA]; rfl)) rfl rfl rfl (by solve | repeat' constructor) (by solve | repeat' constructor) ?_)
        case sub40 => exact (by solve | repeat' constructor)
        refine awc_end ?_
        simp only [List.nil_append, Nat.zero_add, ordRows_range]
        exact cut_n ⟨_, _, _, rfl, rfl⟩ (by first | ((repeat' (first | exact True.intro | refine ⟨rfl, ?_⟩)); all_goals fail) | fail) (by solve | repeat' constructor)
      refine awc_h (hm := []) rfl (wt_none rfl) ?sub45 rfl (st_alloc T0 rfl rfl rfl rfl (by simp only [Value.cells, List.toList_toArray, List.map_cons, List.map_nil]; rfl) ?_)
      case sub45 => exact (by solve | repeat' constructor)
      intro g7
      refine awc_h (hm := []) rfl (wt_none rfl) ?sub48 rfl (st_bsl T0 rfl rfl rfl rfl rfl (by solve | repeat' constructor) rfl rfl rfl rfl (by simp only [List.map_cons, List.map_nil, cellsA]; rfl) ?_)
      case sub48 => exact (by solve | repeat' constructor)
      intro g20
      refine awc_h (hm := _) rfl (wt_none rfl) ?sub51 rfl (st_appB_o (n := 0 + p.ords.length) T0 rfl rfl rfl rfl rfl rfl rfl rfl (by solve | repeat' constructor) (by solve | repeat' constructor) rfl rfl (by simp) k3 k4 ?_)
      case sub51 => exact (by solve | repeat' constructor)
      intro a21 c21 p21
      refine awc_n1 rfl (wt_none rfl) (pv_build T0 rfl rfl rfl (by simp only [Value.cells, List.toList_toArray, List.map_cons, List.map_nil]; rfl) (by first | ((repeat' (first | exact BParts.nil | apply BParts.cons | rfl)); all_goals fail) | fail) (by first | ((repeat' (first | exact FillA.nil | exact Sp.done | apply FillA.cons | apply Sp.put | apply Sp.skip | (simp only [cellsA]; rfl) | rfl)); all_goals fail) | fail)) rfl rfl rfl ?_
      refine awc_h (hm := _) rfl (wt_none rfl) ?sub55 rfl (st_store_o T0 rfl rfl rfl rfl rfl (by first | assumption | (simp only [cellsA]; rfl)) rfl rfl rfl (by solve | repeat' constructor) (by solve | repeat' constructor) ?_)
      case sub55 => exact (by solve | repeat' constructor)
      refine awc_end ?_
      simp only [List.nil_append, Nat.zero_add, ordRows_range]
      exact cut_n ⟨_, _, _, rfl, rfl⟩ (by first | ((repeat' (first | exact True.intro | refine ⟨rfl, ?_⟩)); all_goals fail) | fail) (by solve | repeat' constructor)
    refine awc_alt ?_ ?_
    · skip
      refine awc_h (hm := []) rfl (wt_none rfl) ?sub62 rfl (st_bsl T0 rfl rfl rfl rfl rfl (by solve | repeat' constructor) rfl rfl rfl rfl (by simp only [List.map_cons, List.map_nil, cellsA]; rfl) ?_)
      case sub62 => exact (by solve | repeat' constructor)
      intro g20
      refine awc_alt ?_ ?_
      · skip
        refine awc_h (hm := _) rfl (wt_none rfl) ?sub67 rfl (st_apptB_o (n := 0) T0 rfl rfl rfl rfl rfl rfl rfl rfl (by solve | repeat' constructor) (ordOne _) rfl k1 k2 rfl ?_)
        case sub67 => exact (by solve | repeat' constructor)
        intro a18 c18 p18
        refine awc_alt ?_ ?_
        · skip
          refine awc_h (hm := _) rfl (wt_none rfl) ?sub72 rfl (st_appB_o (n := 0 + p.ords.length) T0 rfl rfl rfl rfl rfl rfl rfl rfl (by solve | repeat' constructor) (by solve | repeat' constructor) rfl rfl (by simp) k3 k4 ?_)
          case sub72 => exact (by solve | repeat' constructor)
          intro a21 c21 p21
          refine awc_n1 rfl (wt_none rfl) (pv_build T0 rfl rfl rfl (by simp only [Value.cells, List.toList_toArray, List.map_cons, List.map_nil]; rfl) (by first | ((repeat' (first | exact BParts.nil | apply BParts.cons | rfl)); all_goals fail) | fail) (by first | ((repeat' (first | exact FillA.nil | exact Sp.done | apply FillA.cons | apply Sp.put | apply Sp.skip | (simp only [cellsA]; rfl) | rfl)); all_goals fail) | fail)) rfl rfl rfl ?_
          refine awc_h (hm := []) rfl (wt_none rfl) ?sub76 rfl (st_alloc T0 rfl rfl rfl rfl (by simp only [Value.cells, List.toList_toArray, List.map_cons, List.map_nil]; rfl) ?_)
          case sub76 => exact (by solve | repeat' constructor)
          intro g7
          refine awc_h (hm := _) rfl (wt_none rfl) ?sub79 rfl (st_store_o T0 rfl rfl rfl rfl rfl (by first | assumption | (simp only [cellsA]; rfl)) rfl rfl rfl (by solve | repeat' constructor) (by solve | repeat' constructor) ?_)
          case sub79 => exact (by solve | repeat' constructor)
          refine awc_end ?_
          simp only [List.nil_append, Nat.zero_add, ordRows_range]
          exact cut_n ⟨_, _, _, rfl, rfl⟩ (by first | ((repeat' (first | exact True.intro | refine ⟨rfl, ?_⟩)); all_goals fail) | fail) (by solve | repeat' constructor)
        refine awc_h (hm := []) rfl (wt_none rfl) ?sub84 rfl (st_alloc T0 rfl rfl rfl rfl (by simp only [Value.cells, List.toList_toArray, List.map_cons, List.map_nil]; rfl) ?_)
        case sub84 => exact (by solve | repeat' constructor)
        intro g7
        refine awc_h (hm := _) rfl (wt_none rfl) ?sub87 rfl (st_appB_o (n := 0 + p.ords.length) T0 rfl rfl rfl rfl rfl rfl rfl rfl (by solve | repeat' constructor) (by solve | repeat' constructor) rfl rfl (by simp) k3 k4 ?_)
        case sub87 => exact (by solve | repeat' constructor)
        intro a21 c21 p21
        refine awc_n1 rfl (wt_none rfl) (pv_build T0 rfl rfl rfl (by simp only [Value.cells, List.toList_toArray, List.map_cons, List.map_nil]; rfl) (by first | ((repeat' (first | exact BParts.nil | apply BParts.cons | rfl)); all_goals fail) | fail) (by first | ((repeat' (first | exact FillA.nil | exact Sp.done | apply FillA.cons | apply Sp.put | apply Sp.skip | (simp only [cellsA]; rfl) | rfl)); all_goals fail) | fail)) rfl rfl rfl ?_
        refine awc_h (hm := _) rfl (wt_none rfl) ?sub91 rfl (st_store_o T0 rfl rfl rfl rfl rfl (by first | assumption | (simp only [cellsA]; rfl)) rfl rfl rfl (by solve | repeat' constructor) (by solve | repeat' constructor) ?_)
        case sub91 => exact (by solve | repeat' constructor)
        refine awc_end ?_
        simp only [List.nil_append, Nat.zero_add, ordRows_range]
        exact cut_n ⟨_, _, _, rfl, rfl⟩ (by first | ((repeat' (first | exact True.intro | refine ⟨rfl, ?_⟩)); all_goals fail) | fail) (by solve | repeat' constructor)
      refine awc_h (hm := []) rfl (wt_none rfl) ?sub96 rfl (st_alloc T0 rfl rfl rfl rfl (by simp only [Value.cells, List.toList_toArray, List.map_cons, List.map_nil]; rfl) ?_)
      case sub96 => exact (by solve | repeat' constructor)
      intro g7
      refine awc_h (hm := _) rfl (wt_none rfl) ?sub99 rfl (st_apptB_o (n := 0) T0 rfl rfl rfl rfl rfl rfl rfl rfl (by solve | repeat' constructor) (ordOne _) rfl k1 k2 rfl ?_)
      case sub99 => exact (by solve | repeat' constructor)
      intro a18 c18 p18
      refine awc_h (hm := _) rfl (wt_none rfl) ?sub102 rfl (st_appB_o (n := 0 + p.ords.length) T0 rfl rfl rfl rfl rfl rfl rfl rfl (by solve | repeat' constructor) (by solve | repeat' constructor) rfl rfl (by simp) k3 k4 ?_)
      case sub102 => exact (by solve | repeat' constructor)
      intro a21 c21 p21
      refine awc_n1 rfl (wt_none rfl) (pv_build T0 rfl rfl rfl (by simp only [Value.cells, List.toList_toArray, List.map_cons, List.map_nil]; rfl) (by first | ((repeat' (first | exact BParts.nil | apply BParts.cons | rfl)); all_goals fail) | fail) (by first | ((repeat' (first | exact FillA.nil | exact Sp.done | apply FillA.cons | apply Sp.put | apply Sp.skip | (simp only [cellsA]; rfl) | rfl)); all_goals fail) | fail)) rfl rfl rfl ?_
      refine awc_h (hm := _) rfl (wt_none rfl) ?sub106 rfl (st_store_o T0 rfl rfl rfl rfl rfl (by first | assumption | (simp only [cellsA]; rfl)) rfl rfl rfl (by solve | repeat' constructor) (by solve | repeat' constructor) ?_)
      case sub106 => exact (by solve | repeat' constructor)
      refine awc_end ?_
      simp only [List.nil_append, Nat.zero_add, ordRows_range]
      exact cut_n ⟨_, _, _, rfl, rfl⟩ (by first | ((repeat' (first | exact True.intro | refine ⟨rfl, ?_⟩)); all_goals fail) | fail) (by solve | repeat' constructor)
    refine awc_h (hm := []) rfl (wt_none rfl) ?sub111 rfl (st_alloc T0 rfl rfl rfl rfl (by simp only [Value.cells, List.toList_toArray, List.map_cons, List.map_nil]; rfl) ?_)
    case sub111 => exact (by solve | repeat' constructor)
    intro g7
    refine awc_alt ?_ ?_
    · skip
      refine awc_h (hm := _) rfl (wt_none rfl) ?sub116 rfl (st_apptB_o (n := 0) T0 rfl rfl rfl rfl rfl rfl rfl rfl (by solve | repeat' constructor) (ordOne _) rfl k1 k2 rfl ?_)
      case sub116 => exact (by solve | repeat' constructor)
      intro a18 c18 p18
      refine awc_h (hm := []) rfl (wt_none rfl) ?sub119 rfl (st_bsl T0 rfl rfl rfl rfl rfl (by solve | repeat' constructor) rfl rfl rfl rfl (by simp only [List.map_cons, List.map_nil, cellsA]; rfl) ?_)
      case sub119 => exact (by solve | repeat' constructor)
      intro g20
      refine awc_h (hm := _) rfl (wt_none rfl) ?sub122 rfl (st_appB_o (n := 0 + p.ords.length) T0 rfl rfl rfl rfl rfl rfl rfl rfl (by solve | repeat' constructor) (by solve | repeat' constructor) rfl rfl (by simp) k3 k4 ?_)
      case sub122 => exact (by solve | repeat' constructor)
      intro a21 c21 p21
      refine awc_n1 rfl (wt_none rfl) (pv_build T0 rfl rfl rfl (by simp only [Value.cells, List.toList_toArray, List.map_cons, List.map_nil]; rfl) (by first | ((repeat' (first | exact BParts.nil | apply BParts.cons | rfl)); all_goals fail) | fail) (by first | ((repeat' (first | exact FillA.nil | exact Sp.done | apply FillA.cons | apply Sp.put | apply Sp.skip | (simp only [cellsA]; rfl) | rfl)); all_goals fail) | fail)) rfl rfl rfl ?_
      refine awc_h (hm := _) rfl (wt_none rfl) ?sub126 rfl (st_store_o T0 rfl rfl rfl rfl rfl (by first | assumption | (simp only [cellsA]; rfl)) rfl rfl rfl (by solve | repeat' constructor) (by solve | repeat' constructor) ?_)
      case sub126 => exact (by solve | repeat' constructor)
      refine awc_end ?_
      simp only [List.nil_append, Nat.zero_add, ordRows_range]
      exact cut_n ⟨_, _, _, rfl, rfl⟩ (by first | ((repeat' (first | exact True.intro | refine ⟨rfl, ?_⟩)); all_goals fail) | fail) (by solve | repeat' constructor)
    refine awc_h (hm := []) rfl (wt_none rfl) ?sub131 rfl (st_bsl T0 rfl rfl rfl rfl rfl (by solve | repeat' constructor) rfl rfl rfl rfl (by simp only [List.map_cons, List.map_nil, cellsA]; rfl) ?_)
    case sub131 => exact (by solve | repeat' constructor)
    intro g20
    refine awc_h (hm := _) rfl (wt_none rfl) ?sub134 rfl (st_apptB_o (n := 0) T0 rfl rfl rfl rfl rfl rfl rfl rfl (by solve | repeat' constructor) (ordOne _) rfl k1 k2 rfl ?_)
    case sub134 => exact (by solve | repeat' constructor)
    intro a18 c18 p18
    refine awc_h (hm := _) rfl (wt_none rfl) ?sub137 rfl (st_appB_o (n := 0 + p.ords.length) T0 rfl rfl rfl rfl rfl rfl rfl rfl (by solve | repeat' constructor) (by solve | repeat' constructor) rfl rfl (by simp) k3 k4 ?_)
    case sub137 => exact (by solve | repeat' constructor)
    intro a21 c21 p21
    refine awc_n1 rfl (wt_none rfl) (pv_build T0 rfl rfl rfl (by simp only [Value.cells, List.toList_toArray, List.map_cons, List.map_nil]; rfl) (by first | ((repeat' (first | exact BParts.nil | apply BParts.cons | rfl)); all_goals fail) | fail) (by first | ((repeat' (first | exact FillA.nil | exact Sp.done | apply FillA.cons | apply Sp.put | apply Sp.skip | (simp only [cellsA]; rfl) | rfl)); all_goals fail) | fail)) rfl rfl rfl ?_
    refine awc_h (hm := _) rfl (wt_none rfl) ?sub141 rfl (st_store_o T0 rfl rfl rfl rfl rfl (by first | assumption | (simp only [cellsA]; rfl)) rfl rfl rfl (by solve | repeat' constructor) (by solve | repeat' constructor) ?_)
    case sub141 => exact (by solve | repeat' constructor)
    refine awc_end ?_
    simp only [List.nil_append, Nat.zero_add, ordRows_range]
    exact cut_n ⟨_, _, _, rfl, rfl⟩ (by first | ((repeat' (first | exact True.intro | refine ⟨rfl, ?_⟩)); all_goals fail) | fail) (by solve | repeat' constructor)
  refine awc_alt ?_ ?_
  · skip
    refine awc_h (hm := []) rfl (wt_none rfl) ?sub148 rfl (st_bsl T0 rfl rfl rfl rfl rfl (by solve | repeat' constructor) rfl rfl rfl rfl (by simp only [List.map_cons, List.map_nil, cellsA]; rfl) ?_)
    case sub148 => exact (by solve | repeat' constructor)
    intro g20
    refine awc_alt ?_ ?_
    · skip
      refine awc_h (hm := []) rfl (wt_none rfl) ?sub153 rfl (st_bsl T0 rfl rfl rfl rfl rfl (by solve | repeat' constructor) rfl rfl rfl rfl (by simp only [List.map_cons, List.map_nil, cellsA]; rfl) ?_)
      case sub153 => exact (by solve | repeat' constructor)
      intro g15
      refine awc_alt ?_ ?_
      · skip
        refine awc_h (hm := _) rfl (wt_none rfl) ?sub158 rfl (st_apptB_o (n := 0) T0 rfl rfl rfl rfl rfl rfl rfl rfl (by solve | repeat' constructor) (ordOne _) rfl k1 k2 rfl ?_)
        case sub158 => exact (by solve | repeat' constructor)
        intro a18 c18 p18
        refine awc_alt ?_ ?_
        · skip
          refine awc_h (hm := _) rfl (wt_none rfl) ?sub163 rfl (st_appB_o (n := 0 + p.ords.length) T0 rfl rfl rfl rfl rfl rfl rfl rfl (by solve | repeat' constructor) (by solve | repeat' constructor) rfl rfl (by simp) k3 k4 ?_)
          case sub163 => exact (by solve | repeat' constructor)
          intro a21 c21 p21
          refine awc_n1 rfl (wt_none rfl) (pv_build T0 rfl rfl rfl (by simp only [Value.cells, List.toList_toArray, List.map_cons, List.map_nil]; rfl) (by first | ((repeat' (first | exact BParts.nil | apply BParts.cons | rfl)); all_goals fail) | fail) (by first | ((repeat' (first | exact FillA.nil | exact Sp.done | apply FillA.cons | apply Sp.put | apply Sp.skip | (simp only [cellsA]; rfl) | rfl)); all_goals fail) | fail)) rfl rfl rfl ?_
          refine awc_h (hm := []) rfl (wt_none rfl) ?sub167 rfl (st_alloc T0 rfl rfl rfl rfl (by simp only [Value.cells, List.toList_toArray, List.map_cons, List.map_nil]; rfl) ?_)
          case sub167 => exact (by solve | repeat' constructor)
          intro g7
          refine awc_h (hm := _) rfl (wt_none rfl) ?sub170 rfl (st_store_o T0 rfl rfl rfl rfl rfl (by first | assumption | (simp only [cellsA]; rfl)) rfl rfl rfl (by solve | repeat' constructor) (by solve | repeat' constructor) ?_)
          case sub170 => exact (by solve | repeat' constructor)
          refine awc_end ?_
          simp only [List.nil_append, Nat.zero_add, ordRows_range]
          exact cut_n ⟨_, _, _, rfl, rfl⟩ (by first | ((repeat' (first | exact True.intro | refine ⟨rfl, ?_⟩)); all_goals fail) | fail) (by solve | repeat' constructor)
        refine awc_h (hm := []) rfl (wt_none rfl) ?sub175 rfl (st_alloc T0 rfl rfl rfl rfl (by simp only [Value.cells, List.toList_toArray, List.map_cons, List.map_nil]; rfl) ?_)
        case sub175 => exact (by solve | repeat' constructor)
        intro g7
        refine awc_h (hm := _) rfl (wt_none rfl) ?sub178 rfl (st_appB_o (n := 0 + p.ords.length) T0 rfl rfl rfl rfl rfl rfl rfl rfl (by solve | repeat' constructor) (by solve | repeat' constructor) rfl rfl (by simp) k3 k4 ?_)
        case sub178 => exact (by solve | repeat' constructor)
        intro a21 c21 p21
        refine awc_n1 rfl (wt_none rfl) (pv_build T0 rfl rfl rfl (by simp only [Value.cells, List.toList_toArray, List.map_cons, List.map_nil]; rfl) (by first | ((repeat' (first | exact BParts.nil | apply BParts.cons | rfl)); all_goals fail) | fail) (by first | ((repeat' (first | exact FillA.nil | exact Sp.done | apply FillA.cons | apply Sp.put | apply Sp.skip | (simp only [cellsA]; rfl) | rfl)); all_goals fail) | fail)) rfl rfl rfl ?_
        refine awc_h (hm := _) rfl (wt_none rfl) ?sub182 rfl (st_store_o T0 rfl rfl rfl rfl rfl (by first | assumption | (simp only [cellsA]; rfl)) rfl rfl rfl (by solve | repeat' constructor) (by solve | repeat' constructor) ?_)
        case sub182 => exact (by solve | repeat' constructor)
        refine awc_end ?_
        simp only [List.nil_append, Nat.zero_add, ordRows_range]
        exact cut_n ⟨_, _, _, rfl, rfl⟩ (by first | ((repeat' (first | exact True.intro | refine ⟨rfl, ?_⟩)); all_goals fail) | fail) (by solve | repeat' constructor)
      refine awc_h (hm := []) rfl (wt_none rfl) ?sub187 rfl (st_alloc T0 rfl rfl rfl rfl (by simp only [Value.cells, List.toList_toArray, List.map_cons, List.map_nil]; rfl) ?_)
      case sub187 => exact (by solve | repeat' constructor)
      intro g7
      refine awc_h (hm := _) rfl (wt_none rfl) ?sub190 rfl (st_apptB_o (n := 0) T0 rfl rfl rfl rfl rfl rfl rfl rfl (by solve | repeat' constructor) (ordOne _) rfl k1 k2 rfl ?_)
      case sub190 => exact (by solve | repeat' constructor)
      intro a18 c18 p18
      refine awc_h (hm := _) rfl (wt_none rfl) ?sub193 rfl (st_appB_o (n := 0 + p.ords.length) T0 rfl rfl rfl rfl rfl rfl rfl rfl (by solve | repeat' constructor) (by solve | repeat' constructor) rfl rfl (by simp) k3 k4 ?_)
      case sub193 => exact (by solve | repeat' constructor)
      intro a21 c21 p21
      refine awc_n1 rfl (wt_none rfl) (pv_build T0 rfl rfl rfl (by simp only [Value.cells, List.toList_toArray, List.map_cons, List.map_nil]; rfl) (by first | ((repeat' (first | exact BParts.nil | apply BParts.cons | rfl)); all_goals fail) | fail) (by first | ((repeat' (first | exact FillA.nil | exact Sp.done | apply FillA.cons | apply Sp.put | apply Sp.skip | (simp only [cellsA]; rfl) | rfl)); all_goals fail) | fail)) rfl rfl rfl ?_
      refine awc_h (hm := _) rfl (wt_none rfl) ?sub197 rfl (st_store_o T0 rfl rfl rfl rfl rfl (by first | assumption | (simp only [cellsA]; rfl)) rfl rfl rfl (by solve | repeat' constructor) (by solve | repeat' constructor) ?_)
      case sub197 => exact (by solve | repeat' constructor)
      refine awc_end ?_
      simp only [List.nil_append, Nat.zero_add, ordRows_range]
      exact cut_n ⟨_, _, _, rfl, rfl⟩ (by first | ((repeat' (first | exact True.intro | refine ⟨rfl, ?_⟩)); all_goals fail) | fail) (by solve | repeat' constructor)
    refine awc_h (hm := []) rfl (wt_none rfl) ?sub202 rfl (st_alloc T0 rfl rfl rfl rfl (by simp only [Value.cells, List.toList_toArray, List.map_cons, List.map_nil]; rfl) ?_)
    case sub202 => exact (by solve | repeat' constructor)
    intro g7
    refine awc_h (hm := []) rfl (wt_none rfl) ?sub205 rfl (st_bsl T0 rfl rfl rfl rfl rfl (by solve | repeat' constructor) rfl rfl rfl rfl (by simp only [List.map_cons, List.map_nil, cellsA]; rfl) ?_)
    case sub205 => exact (by solve | repeat' constructor)
    intro g15
    refine awc_h (hm := _) rfl (wt_none rfl) ?sub208 rfl (st_apptB_o (n := 0) T0 rfl rfl rfl rfl rfl rfl rfl rfl (by solve | repeat' constructor) (ordOne _) rfl k1 k2 rfl ?_)
    case sub208 => exact (by solve | repeat' constructor)
    intro a18 c18 p18
    refine awc_h (hm := _) rfl (wt_none rfl) ?sub211 rfl (st_appB_o (n := 0 + p.ords.length) T0 rfl rfl rfl rfl rfl rfl rfl rfl (by solve | repeat' constructor) (by solve | repeat' constructor) rfl rfl (by simp) k3 k4 ?_)
    case sub211 => exact (by solve | repeat' constructor)
    intro a21 c21 p21
    refine awc_n1 rfl (wt_none rfl) (pv_build T0 rfl rfl rfl (by simp only [Value.cells, List.toList_toArray, List.map_cons, List.map_nil]; rfl) (by first | ((repeat' (first | exact BParts.nil | apply BParts.cons | rfl)); all_goals fail) | fail) (by first | ((repeat' (first | exact FillA.nil | exact Sp.done | apply FillA.cons | apply Sp.put | apply Sp.skip | (simp only [cellsA]; rfl) | rfl)); all_goals fail) | fail)) rfl rfl rfl ?_
    refine awc_h (hm := _) rfl (wt_none rfl) ?sub215 rfl (st_store_o T0 rfl rfl rfl rfl rfl (by first | assumption | (simp only [cellsA]; rfl)) rfl rfl rfl (by solve | repeat' constructor) (by solve | repeat' constructor) ?_)
    case sub215 => exact (by solve | repeat' constructor)
    refine awc_end ?_
    simp only [List.nil_append, Nat.zero_add, ordRows_range]
    exact cut_n ⟨_, _, _, rfl, rfl⟩ (by first | ((repeat' (first | exact True.intro | refine ⟨rfl, ?_⟩)); all_goals fail) | fail) (by solve | repeat' constructor)
  refine awc_h (hm := []) rfl (wt_none rfl) ?sub220 rfl (st_alloc T0 rfl rfl rfl rfl (by simp only [Value.cells, List.toList_toArray, List.map_cons, List.map_nil]; rfl) ?_)
  case sub220 => exact (by solve | repeat' constructor)
  intro g7
  refine awc_alt ?_ ?_
  · skip
    refine awc_h (hm := []) rfl (wt_none rfl) ?sub225 rfl (st_bsl T0 rfl rfl rfl rfl rfl (by solve | repeat' constructor) rfl rfl rfl rfl (by simp only [List.map_cons, List.map_nil, cellsA]; rfl) ?_)
    case sub225 => exact (by solve | repeat' constructor)
    intro g15
    refine awc_alt ?_ ?_
    · skip
      refine awc_h (hm := _) rfl (wt_none rfl) ?sub230 rfl (st_apptB_o (n := 0) T0 rfl rfl rfl rfl rfl rfl rfl rfl (by solve | repeat' constructor) (ordOne _) rfl k1 k2 rfl ?_)
      case sub230 => exact (by solve | repeat' constructor)
      intro a18 c18 p18
      refine awc_h (hm := []) rfl (wt_none rfl) ?sub233 rfl (st_bsl T0 rfl rfl rfl rfl rfl (by solve | repeat' constructor) rfl rfl rfl rfl (by simp only [List.map_cons, List.map_nil, cellsA]; rfl) ?_)
      case sub233 => exact (by solve | repeat' constructor)
      intro g20
      refine awc_h (hm := _) rfl (wt_none rfl) ?sub236 rfl (st_appB_o (n := 0 + p.ords.length) T0 rfl rfl rfl rfl rfl rfl rfl rfl (by solve | repeat' constructor) (by solve | repeat' constructor) rfl rfl (by simp) k3 k4 ?_)
      case sub236 => exact (by solve | repeat' constructor)
      intro a21 c21 p21
      refine awc_n1 rfl (wt_none rfl) (pv_build T0 rfl rfl rfl (by simp only [Value.cells, List.toList_toArray, List.map_cons, List.map_nil]; rfl) (by first | ((repeat' (first | exact BParts.nil | apply BParts.cons | rfl)); all_goals fail) | fail) (by first | ((repeat' (first | exact FillA.nil | exact Sp.done | apply FillA.cons | apply Sp.put | apply Sp.skip | (simp only [cellsA]; rfl) | rfl)); all_goals fail) | fail)) rfl rfl rfl ?_
      refine awc_h (hm := _) rfl (wt_none rfl) ?sub240 rfl (st_store_o T0 rfl rfl rfl rfl rfl (by first | assumption | (simp only [cellsA]; rfl)) rfl rfl rfl (by solve | repeat' constructor) (by solve | repeat' constructor) ?_)
      case sub240 => exact (by solve | repeat' constructor)
      refine awc_end ?_
      simp only [List.nil_append, Nat.zero_add, ordRows_range]
      exact cut_n ⟨_, _, _, rfl, rfl⟩ (by first | ((repeat' (first | exact True.intro | refine ⟨rfl, ?_⟩)); all_goals fail) | fail) (by solve | repeat' constructor)
    refine awc_h (hm := []) rfl (wt_none rfl) ?sub245 rfl (st_bsl T0 rfl rfl rfl rfl rfl (by solve | repeat' constructor) rfl rfl rfl rfl (by simp only [List.map_cons, List.map_nil, cellsA]; rfl) ?_)
    case sub245 => exact (by solve | repeat' constructor)
    intro g20
    refine awc_h (hm := _) rfl (wt_none rfl) ?sub248 rfl (st_apptB_o (n := 0) T0 rfl rfl rfl rfl rfl rfl rfl rfl (by solve | repeat' constructor) (ordOne _) rfl k1 k2 rfl ?_)
    case sub248 => exact (by solve | repeat' constructor)
    intro a18 c18 p18
    refine awc_h (hm := _) rfl (wt_none rfl) ?sub251 rfl (st_appB_o (n := 0 + p.ords.length) T0 rfl rfl rfl rfl rfl rfl rfl rfl (by solve | repeat' constructor) (by solve | repeat' constructor) rfl rfl (by simp) k3 k4 ?_)
    case sub251 => exact (by solve | repeat' constructor)
    intro a21 c21 p21
    refine awc_n1 rfl (wt_none rfl) (pv_build T0 rfl rfl rfl (by simp only [Value.cells, List.toList_toArray, List.map_cons, List.map_nil]; rfl) (by first | ((repeat' (first | exact BParts.nil | apply BParts.cons | rfl)); all_goals fail) | fail) (by first | ((repeat' (first | exact FillA.nil | exact Sp.done | apply FillA.cons | apply Sp.put | apply Sp.skip | (simp only [cellsA]; rfl) | rfl)); all_goals fail) | fail)) rfl rfl rfl ?_
    refine awc_h (hm := _) rfl (wt_none rfl) ?sub255 rfl (st_store_o T0 rfl rfl rfl rfl rfl (by first | assumption | (simp only [cellsA]; rfl)) rfl rfl rfl (by solve | repeat' constructor) (by solve | repeat' constructor) ?_)
    case sub255 => exact (by solve | repeat' constructor)
    refine awc_end ?_
    simp only [List.nil_append, Nat.zero_add, ordRows_range]
    exact cut_n ⟨_, _, _, rfl, rfl⟩ (by first | ((repeat' (first | exact True.intro | refine ⟨rfl, ?_⟩)); all_goals fail) | fail) (by solve | repeat' constructor)
  refine awc_h (hm := []) rfl (wt_none rfl) ?sub260 rfl (st_bsl T0 rfl rfl rfl rfl rfl (by solve | repeat' constructor) rfl rfl rfl rfl (by simp only [List.map_cons, List.map_nil, cellsA]; rfl) ?_)
  case sub260 => exact (by solve | repeat' constructor)
  intro g20
  refine awc_h (hm := []) rfl (wt_none rfl) ?sub263 rfl (st_bsl T0 rfl rfl rfl rfl rfl (by solve | repeat' constructor) rfl rfl rfl rfl (by simp only [List.map_cons, List.map_nil, cellsA]; rfl) ?_)
  case sub263 => exact (by solve | repeat' constructor)
  intro g15
  refine awc_h (hm := _) rfl (wt_none rfl) ?sub266 rfl (st_apptB_o (n := 0) T0 rfl rfl rfl rfl rfl rfl rfl rfl (by solve | repeat' constructor) (ordOne _) rfl k1 k2 rfl ?_)
  case sub266 => exact (by solve | repeat' constructor)
  intro a18 c18 p18
  refine awc_h (hm := _) rfl (wt_none rfl) ?sub269 rfl (st_appB_o (n := 0 + p.ords.length) T0 rfl rfl rfl rfl rfl rfl rfl rfl (by solve | repeat' constructor) (by solve | repeat' constructor) rfl rfl (by simp) k3 k4 ?_)
  case sub269 => exact (by solve | repeat' constructor)
  intro a21 c21 p21
  refine awc_n1 rfl (wt_none rfl) (pv_build T0 rfl rfl rfl (by simp only [Value.cells, List.toList_toArray, List.map_cons, List.map_nil]; rfl) (by first | ((repeat' (first | exact BParts.nil | apply BParts.cons | rfl)); all_goals fail) | fail) (by first | ((repeat' (first | exact FillA.nil | exact Sp.done | apply FillA.cons | apply Sp.put | apply Sp.skip | (simp only [cellsA]; rfl) | rfl)); all_goals fail) | fail)) rfl rfl rfl ?_
  refine awc_h (hm := _) rfl (wt_none rfl) ?sub273 rfl (st_store_o T0 rfl rfl rfl rfl rfl (by first | assumption | (simp only [cellsA]; rfl)) rfl rfl rfl (by solve | repeat' constructor) (by solve | repeat' constructor) ?_)
  case sub273 => exact (by solve | repeat' constructor)
  refine awc_end ?_
  simp only [List.nil_append, Nat.zero_add, ordRows_range]
  exact cut_n ⟨_, _, _, rfl, rfl⟩ (by first | ((repeat' (first | exact True.intro | refine ⟨rfl, ?_⟩)); all_goals fail) | fail) (by solve | repeat' constructor)
theorem qs_12 {i n : Nat} {L M : List SaleD} {b : Bool} (hn : n = p.ords.length) (hi : i < M.length) (hM : M.length ≤ 1000) (hb : b = decide ((M.getD i default).buyer = (n : Int) ∨ (M.getD i default).seller = (n : Int))) {ops : Array Oper} (h : regF Try.f14 12 = some ops) :
    AWP Try.prog Try.f14.ntmps none (.region 12 ops true) (cutQ (fun s h => s = [(3, .v (ptrV g3)), (9, .t (salesT true L)), (11, .t (salesT true M)), (13, intA i), (14, boolA b)] ∧ h = [.cl g3 24 [.t (ordsT false p.ords)]]))
      [(3, .v (ptrV g3)), (9, .t (salesT true L)), (11, .t (salesT true M)), (13, intA i)] [.cl g3 24 [.t (ordsT false p.ords)]] := by
  cases h
  subst hn
  by_cases c1 : (M.getD i default).buyer = (p.ords.length : Int)
  · rw [decide_eq_true (.inl c1)] at hb
    subst hb
    have d1 := decide_eq_true c1
    refine awp_par T0 (l := (0 :: 1 :: 2 :: 3 :: 4 :: 5 :: 6 :: 7 :: 8 :: 9 :: 10 :: 11 :: 12 :: 13 :: 14 :: 15 :: 16 :: 17 :: 18 :: 19 :: 20 :: [])) rfl (by kernel_rfl) (by kernel_rfl) ?_
    apply parW_op (ds := [11]) rfl rfl rfl rfl (by kernel_rfl)
    · exact .inl ⟨(wt_none rfl), stepQ_pv (pv_move rfl rfl) rfl rfl⟩
    apply parW_op (ds := [13]) rfl rfl rfl rfl (by kernel_rfl)
    · exact .inl ⟨(wt_none rfl), stepQ_pv (pv_move rfl rfl) rfl rfl⟩
    apply parW_op (ds := [78, 79]) rfl rfl rfl rfl (by kernel_rfl)
    · exact .inl ⟨(wt_none rfl), stepQ_pv (pv_ix_t T0 rfl rfl rfl rfl (by omega) (by first | exact (rfl : Int.toNat 0 = 0) | exact Int.toNat_natCast _ | rfl)) rfl rfl⟩
    apply parW_op (ds := [80]) rfl rfl rfl rfl (by kernel_rfl)
    · exact .inl ⟨(wt_none rfl), stepQ_pv (pv_fa_elt T0 rfl rfl rfl (by simp; rfl)) rfl rfl⟩
    apply parW_op (ds := [81]) rfl rfl rfl rfl (by kernel_rfl)
    · exact .inl ⟨(wt_none rfl), stepQ_lv (lv_elt_sc T0 rfl rfl rfl rfl) rfl rfl⟩
    apply parW_op (ds := [3]) rfl rfl rfl rfl (by kernel_rfl)
    · exact .inl ⟨(wt_none rfl), stepQ_pv (pv_fa T0 rfl rfl rfl (by simp; rfl)) rfl rfl⟩
    apply parW_op (ds := [83]) rfl rfl rfl rfl (by kernel_rfl)
    · exact .inl ⟨(wt_none rfl), stepQ_lv (lv_cl1 T0 rfl rfl rfl (by solve | repeat' constructor) (by first | rfl | assumption)) rfl rfl⟩
    apply parW_op (ds := [84]) rfl rfl rfl rfl (by kernel_rfl)
    · exact .inl ⟨(wt_none rfl), stepQ_pv (pv_len_t T0 rfl rfl rfl) rfl rfl⟩
    apply parW_op (ds := [82, 85]) rfl rfl rfl rfl (by kernel_rfl)
    · exact .inl ⟨(wt_none rfl), stepQ_pv (pv_eql rfl rfl rfl) rfl rfl⟩
    apply parW_op (ds := [86]) rfl rfl rfl rfl (by kernel_rfl)
    · exact .inl ⟨(wt_none rfl), stepQ_pv (pv_move rfl rfl) rfl rfl⟩
    apply parW_op (ds := [11, 87]) rfl rfl rfl rfl (by kernel_rfl)
    · exact .inr ⟨(wf_some rfl rfl rfl rfl (by first | rfl | assumption | exact dT (by omega) | exact dF (by omega))), rfl⟩
    apply parW_op (ds := [13, 87]) rfl rfl rfl rfl (by kernel_rfl)
    · exact .inr ⟨(wf_some rfl rfl rfl rfl (by first | rfl | assumption | exact dT (by omega) | exact dF (by omega))), rfl⟩
    apply parW_op (ds := [88, 89, 87]) rfl rfl rfl rfl (by kernel_rfl)
    · exact .inr ⟨(wf_some rfl rfl rfl rfl (by first | rfl | assumption | exact dT (by omega) | exact dF (by omega))), rfl⟩
    apply parW_op (ds := [90, 87]) rfl rfl rfl rfl (by kernel_rfl)
    · exact .inr ⟨(wf_some rfl rfl rfl rfl (by first | rfl | assumption | exact dT (by omega) | exact dF (by omega))), rfl⟩
    apply parW_op (ds := [91, 87]) rfl rfl rfl rfl (by kernel_rfl)
    · exact .inr ⟨(wf_some rfl rfl rfl rfl (by first | rfl | assumption | exact dT (by omega) | exact dF (by omega))), rfl⟩
    apply parW_op (ds := [3, 87]) rfl rfl rfl rfl (by kernel_rfl)
    · exact .inr ⟨(wf_some rfl rfl rfl rfl (by first | rfl | assumption | exact dT (by omega) | exact dF (by omega))), rfl⟩
    apply parW_op (ds := [93, 87]) rfl rfl rfl rfl (by kernel_rfl)
    · exact .inr ⟨(wf_some rfl rfl rfl rfl (by first | rfl | assumption | exact dT (by omega) | exact dF (by omega))), rfl⟩
    apply parW_op (ds := [94, 87]) rfl rfl rfl rfl (by kernel_rfl)
    · exact .inr ⟨(wf_some rfl rfl rfl rfl (by first | rfl | assumption | exact dT (by omega) | exact dF (by omega))), rfl⟩
    apply parW_op (ds := [92, 95, 87]) rfl rfl rfl rfl (by kernel_rfl)
    · exact .inr ⟨(wf_some rfl rfl rfl rfl (by first | rfl | assumption | exact dT (by omega) | exact dF (by omega))), rfl⟩
    apply parW_op (ds := [87, 96]) rfl rfl rfl rfl (by kernel_rfl)
    · exact .inl ⟨(wt_none rfl), stepQ_pv (pv_pick_t rfl rfl (by first | rfl | assumption | exact dT (by omega) | exact dF (by omega)) rfl) rfl rfl⟩
    apply parW_op (ds := [97]) rfl rfl rfl rfl (by kernel_rfl)
    · exact .inl ⟨(wt_none rfl), stepQ_pv (pv_assign rfl rfl) rfl rfl⟩
    refine parW_nil ?_
    exact cut_n ⟨rfl, rfl⟩ (by first | ((repeat' (first | exact True.intro | refine ⟨rfl, ?_⟩)); all_goals fail) | fail) (by solve | repeat' constructor)
  have d1 := decide_eq_false c1
  by_cases c2 : (M.getD i default).seller = (p.ords.length : Int)
  · rw [decide_eq_true (.inr c2)] at hb
    subst hb
    have d2 := decide_eq_true c2
    refine awp_par T0 (l := (0 :: 1 :: 2 :: 3 :: 4 :: 5 :: 6 :: 7 :: 8 :: 9 :: 10 :: 11 :: 12 :: 13 :: 14 :: 15 :: 16 :: 17 :: 18 :: 19 :: 20 :: [])) rfl (by kernel_rfl) (by kernel_rfl) ?_
    apply parW_op (ds := [11]) rfl rfl rfl rfl (by kernel_rfl)
    · exact .inl ⟨(wt_none rfl), stepQ_pv (pv_move rfl rfl) rfl rfl⟩
    apply parW_op (ds := [13]) rfl rfl rfl rfl (by kernel_rfl)
    · exact .inl ⟨(wt_none rfl), stepQ_pv (pv_move rfl rfl) rfl rfl⟩
    apply parW_op (ds := [78, 79]) rfl rfl rfl rfl (by kernel_rfl)
    · exact .inl ⟨(wt_none rfl), stepQ_pv (pv_ix_t T0 rfl rfl rfl rfl (by omega) (by first | exact (rfl : Int.toNat 0 = 0) | exact Int.toNat_natCast _ | rfl)) rfl rfl⟩
    apply parW_op (ds := [80]) rfl rfl rfl rfl (by kernel_rfl)
    · exact .inl ⟨(wt_none rfl), stepQ_pv (pv_fa_elt T0 rfl rfl rfl (by simp; rfl)) rfl rfl⟩
    apply parW_op (ds := [81]) rfl rfl rfl rfl (by kernel_rfl)
    · exact .inl ⟨(wt_none rfl), stepQ_lv (lv_elt_sc T0 rfl rfl rfl rfl) rfl rfl⟩
    apply parW_op (ds := [3]) rfl rfl rfl rfl (by kernel_rfl)
    · exact .inl ⟨(wt_none rfl), stepQ_pv (pv_fa T0 rfl rfl rfl (by simp; rfl)) rfl rfl⟩
    apply parW_op (ds := [83]) rfl rfl rfl rfl (by kernel_rfl)
    · exact .inl ⟨(wt_none rfl), stepQ_lv (lv_cl1 T0 rfl rfl rfl (by solve | repeat' constructor) (by first | rfl | assumption)) rfl rfl⟩
    apply parW_op (ds := [84]) rfl rfl rfl rfl (by kernel_rfl)
    · exact .inl ⟨(wt_none rfl), stepQ_pv (pv_len_t T0 rfl rfl rfl) rfl rfl⟩
    apply parW_op (ds := [82, 85]) rfl rfl rfl rfl (by kernel_rfl)
    · exact .inl ⟨(wt_none rfl), stepQ_pv (pv_eql rfl rfl rfl) rfl rfl⟩
    apply parW_op (ds := [86]) rfl rfl rfl rfl (by kernel_rfl)
    · exact .inl ⟨(wt_none rfl), stepQ_pv (pv_move rfl rfl) rfl rfl⟩
    apply parW_op (ds := [11, 87]) rfl rfl rfl rfl (by kernel_rfl)
    · exact .inl ⟨(wt_some' rfl rfl rfl rfl (by first | rfl | assumption | exact dT (by omega) | exact dF (by omega))), stepQ_pv (pv_move rfl rfl) rfl rfl⟩
    apply parW_op (ds := [13, 87]) rfl rfl rfl rfl (by kernel_rfl)
    · exact .inl ⟨(wt_some' rfl rfl rfl rfl (by first | rfl | assumption | exact dT (by omega) | exact dF (by omega))), stepQ_pv (pv_move rfl rfl) rfl rfl⟩
    apply parW_op (ds := [88, 89, 87]) rfl rfl rfl rfl (by kernel_rfl)
    · exact .inl ⟨(wt_some' rfl rfl rfl rfl (by first | rfl | assumption | exact dT (by omega) | exact dF (by omega))), stepQ_pv (pv_ix_t T0 rfl rfl rfl rfl (by omega) (by first | exact (rfl : Int.toNat 0 = 0) | exact Int.toNat_natCast _ | rfl)) rfl rfl⟩
    apply parW_op (ds := [90, 87]) rfl rfl rfl rfl (by kernel_rfl)
    · exact .inl ⟨(wt_some' rfl rfl rfl rfl (by first | rfl | assumption | exact dT (by omega) | exact dF (by omega))), stepQ_pv (pv_fa_elt T0 rfl rfl rfl (by simp; rfl)) rfl rfl⟩
    apply parW_op (ds := [91, 87]) rfl rfl rfl rfl (by kernel_rfl)
    · exact .inl ⟨(wt_some' rfl rfl rfl rfl (by first | rfl | assumption | exact dT (by omega) | exact dF (by omega))), stepQ_lv (lv_elt_sc T0 rfl rfl rfl rfl) rfl rfl⟩
    apply parW_op (ds := [3, 87]) rfl rfl rfl rfl (by kernel_rfl)
    · exact .inl ⟨(wt_some' rfl rfl rfl rfl (by first | rfl | assumption | exact dT (by omega) | exact dF (by omega))), stepQ_pv (pv_fa T0 rfl rfl rfl (by simp; rfl)) rfl rfl⟩
    apply parW_op (ds := [93, 87]) rfl rfl rfl rfl (by kernel_rfl)
    · exact .inl ⟨(wt_some' rfl rfl rfl rfl (by first | rfl | assumption | exact dT (by omega) | exact dF (by omega))), stepQ_lv (lv_cl1 T0 rfl rfl rfl (by solve | repeat' constructor) (by first | rfl | assumption)) rfl rfl⟩
    apply parW_op (ds := [94, 87]) rfl rfl rfl rfl (by kernel_rfl)
    · exact .inl ⟨(wt_some' rfl rfl rfl rfl (by first | rfl | assumption | exact dT (by omega) | exact dF (by omega))), stepQ_pv (pv_len_t T0 rfl rfl rfl) rfl rfl⟩
    apply parW_op (ds := [92, 95, 87]) rfl rfl rfl rfl (by kernel_rfl)
    · exact .inl ⟨(wt_some' rfl rfl rfl rfl (by first | rfl | assumption | exact dT (by omega) | exact dF (by omega))), stepQ_pv (pv_eql rfl rfl rfl) rfl rfl⟩
    apply parW_op (ds := [87, 96]) rfl rfl rfl rfl (by kernel_rfl)
    · exact .inl ⟨(wt_none rfl), stepQ_pv (pv_pick_f rfl rfl (by first | rfl | assumption | exact dT (by omega) | exact dF (by omega)) rfl) rfl rfl⟩
    apply parW_op (ds := [97]) rfl rfl rfl rfl (by kernel_rfl)
    · exact .inl ⟨(wt_none rfl), stepQ_pv (pv_assign rfl rfl) rfl rfl⟩
    refine parW_nil ?_
    rw [d2]
    exact cut_n ⟨rfl, rfl⟩ (by first | ((repeat' (first | exact True.intro | refine ⟨rfl, ?_⟩)); all_goals fail) | fail) (by solve | repeat' constructor)
  · rw [decide_eq_false (fun h => h.elim c1 c2)] at hb
    subst hb
    have d2 := decide_eq_false c2
    refine awp_par T0 (l := (0 :: 1 :: 2 :: 3 :: 4 :: 5 :: 6 :: 7 :: 8 :: 9 :: 10 :: 11 :: 12 :: 13 :: 14 :: 15 :: 16 :: 17 :: 18 :: 19 :: 20 :: [])) rfl (by kernel_rfl) (by kernel_rfl) ?_
    apply parW_op (ds := [11]) rfl rfl rfl rfl (by kernel_rfl)
    · exact .inl ⟨(wt_none rfl), stepQ_pv (pv_move rfl rfl) rfl rfl⟩
    apply parW_op (ds := [13]) rfl rfl rfl rfl (by kernel_rfl)
    · exact .inl ⟨(wt_none rfl), stepQ_pv (pv_move rfl rfl) rfl rfl⟩
    apply parW_op (ds := [78, 79]) rfl rfl rfl rfl (by kernel_rfl)
    · exact .inl ⟨(wt_none rfl), stepQ_pv (pv_ix_t T0 rfl rfl rfl rfl (by omega) (by first | exact (rfl : Int.toNat 0 = 0) | exact Int.toNat_natCast _ | rfl)) rfl rfl⟩
    apply parW_op (ds := [80]) rfl rfl rfl rfl (by kernel_rfl)
    · exact .inl ⟨(wt_none rfl), stepQ_pv (pv_fa_elt T0 rfl rfl rfl (by simp; rfl)) rfl rfl⟩
    apply parW_op (ds := [81]) rfl rfl rfl rfl (by kernel_rfl)
    · exact .inl ⟨(wt_none rfl), stepQ_lv (lv_elt_sc T0 rfl rfl rfl rfl) rfl rfl⟩
    apply parW_op (ds := [3]) rfl rfl rfl rfl (by kernel_rfl)
    · exact .inl ⟨(wt_none rfl), stepQ_pv (pv_fa T0 rfl rfl rfl (by simp; rfl)) rfl rfl⟩
    apply parW_op (ds := [83]) rfl rfl rfl rfl (by kernel_rfl)
    · exact .inl ⟨(wt_none rfl), stepQ_lv (lv_cl1 T0 rfl rfl rfl (by solve | repeat' constructor) (by first | rfl | assumption)) rfl rfl⟩
    apply parW_op (ds := [84]) rfl rfl rfl rfl (by kernel_rfl)
    · exact .inl ⟨(wt_none rfl), stepQ_pv (pv_len_t T0 rfl rfl rfl) rfl rfl⟩
    apply parW_op (ds := [82, 85]) rfl rfl rfl rfl (by kernel_rfl)
    · exact .inl ⟨(wt_none rfl), stepQ_pv (pv_eql rfl rfl rfl) rfl rfl⟩
    apply parW_op (ds := [86]) rfl rfl rfl rfl (by kernel_rfl)
    · exact .inl ⟨(wt_none rfl), stepQ_pv (pv_move rfl rfl) rfl rfl⟩
    apply parW_op (ds := [11, 87]) rfl rfl rfl rfl (by kernel_rfl)
    · exact .inl ⟨(wt_some' rfl rfl rfl rfl (by first | rfl | assumption | exact dT (by omega) | exact dF (by omega))), stepQ_pv (pv_move rfl rfl) rfl rfl⟩
    apply parW_op (ds := [13, 87]) rfl rfl rfl rfl (by kernel_rfl)
    · exact .inl ⟨(wt_some' rfl rfl rfl rfl (by first | rfl | assumption | exact dT (by omega) | exact dF (by omega))), stepQ_pv (pv_move rfl rfl) rfl rfl⟩
    apply parW_op (ds := [88, 89, 87]) rfl rfl rfl rfl (by kernel_rfl)
    · exact .inl ⟨(wt_some' rfl rfl rfl rfl (by first | rfl | assumption | exact dT (by omega) | exact dF (by omega))), stepQ_pv (pv_ix_t T0 rfl rfl rfl rfl (by omega) (by first | exact (rfl : Int.toNat 0 = 0) | exact Int.toNat_natCast _ | rfl)) rfl rfl⟩
    apply parW_op (ds := [90, 87]) rfl rfl rfl rfl (by kernel_rfl)
    · exact .inl ⟨(wt_some' rfl rfl rfl rfl (by first | rfl | assumption | exact dT (by omega) | exact dF (by omega))), stepQ_pv (pv_fa_elt T0 rfl rfl rfl (by simp; rfl)) rfl rfl⟩
    apply parW_op (ds := [91, 87]) rfl rfl rfl rfl (by kernel_rfl)
    · exact .inl ⟨(wt_some' rfl rfl rfl rfl (by first | rfl | assumption | exact dT (by omega) | exact dF (by omega))), stepQ_lv (lv_elt_sc T0 rfl rfl rfl rfl) rfl rfl⟩
    apply parW_op (ds := [3, 87]) rfl rfl rfl rfl (by kernel_rfl)
    · exact .inl ⟨(wt_some' rfl rfl rfl rfl (by first | rfl | assumption | exact dT (by omega) | exact dF (by omega))), stepQ_pv (pv_fa T0 rfl rfl rfl (by simp; rfl)) rfl rfl⟩
    apply parW_op (ds := [93, 87]) rfl rfl rfl rfl (by kernel_rfl)
    · exact .inl ⟨(wt_some' rfl rfl rfl rfl (by first | rfl | assumption | exact dT (by omega) | exact dF (by omega))), stepQ_lv (lv_cl1 T0 rfl rfl rfl (by solve | repeat' constructor) (by first | rfl | assumption)) rfl rfl⟩
    apply parW_op (ds := [94, 87]) rfl rfl rfl rfl (by kernel_rfl)
    · exact .inl ⟨(wt_some' rfl rfl rfl rfl (by first | rfl | assumption | exact dT (by omega) | exact dF (by omega))), stepQ_pv (pv_len_t T0 rfl rfl rfl) rfl rfl⟩
    apply parW_op (ds := [92, 95, 87]) rfl rfl rfl rfl (by kernel_rfl)
    · exact .inl ⟨(wt_some' rfl rfl rfl rfl (by first | rfl | assumption | exact dT (by omega) | exact dF (by omega))), stepQ_pv (pv_eql rfl rfl rfl) rfl rfl⟩
    apply parW_op (ds := [87, 96]) rfl rfl rfl rfl (by kernel_rfl)
    · exact .inl ⟨(wt_none rfl), stepQ_pv (pv_pick_f rfl rfl (by first | rfl | assumption | exact dT (by omega) | exact dF (by omega)) rfl) rfl rfl⟩
    apply parW_op (ds := [97]) rfl rfl rfl rfl (by kernel_rfl)
    · exact .inl ⟨(wt_none rfl), stepQ_pv (pv_assign rfl rfl) rfl rfl⟩
    refine parW_nil ?_
    rw [d2]
    exact cut_n ⟨rfl, rfl⟩ (by first | ((repeat' (first | exact True.intro | refine ⟨rfl, ?_⟩)); all_goals fail) | fail) (by solve | repeat' constructor)
theorem qs_13 {i : Nat} {L M : List SaleD} {b : Bool} (hi : i < M.length) (hM : M.length ≤ 1000) (hL : L.length ≤ 1000) (h1 : i < L.length → M.getD i default = L.getD i default ∧ b = false) (h2 : ¬ i < L.length → b = true) {ops : Array Oper} (h : regF Try.f14 13 = some ops) :
    AWP Try.prog Try.f14.ntmps none (.region 13 ops true) (cutQ (fun s h => s = [(3, .v (ptrV g3)), (9, .t (salesT true L)), (11, .t (salesT true M)), (13, intA i), (120, boolA false)] ∧ h = [.cl g3 24 [.t (ordsT false p.ords)]]))
      [(3, .v (ptrV g3)), (9, .t (salesT true L)), (11, .t (salesT true M)), (13, intA i), (14, boolA b)] [.cl g3 24 [.t (ordsT false p.ords)]] := by
  cases h
  by_cases c : i < L.length
  · obtain ⟨e, rfl⟩ := h1 c
    have d1 : decide ((i : Int) < L.length) = true := decide_eq_true (by omega)
    have d2 : (!decide (M.getD i default = L.getD i default)) = false := by rw [e]; simp
    have d3 : (false != decide ((L.length : Int) ≤ i)) = false := by rw [decide_eq_false (by omega)]; rfl
    refine awp_par T0 (l := (0 :: 1 :: 2 :: 3 :: 4 :: 5 :: 6 :: 7 :: 8 :: 9 :: 10 :: 11 :: 12 :: 13 :: 14 :: 15 :: 16 :: 17 :: 18 :: 19 :: 20 :: 21 :: 22 :: [])) rfl (by kernel_rfl) (by kernel_rfl) ?_
    apply parW_op (ds := [13]) rfl rfl rfl rfl (by kernel_rfl)
    · exact .inl ⟨(wt_none rfl), stepQ_pv (pv_move rfl rfl) rfl rfl⟩
    apply parW_op (ds := [9]) rfl rfl rfl rfl (by kernel_rfl)
    · exact .inl ⟨(wt_none rfl), stepQ_pv (pv_move rfl rfl) rfl rfl⟩
    apply parW_op (ds := [99]) rfl rfl rfl rfl (by kernel_rfl)
    · exact .inl ⟨(wt_none rfl), stepQ_pv (pv_len_t T0 rfl rfl rfl) rfl rfl⟩
    apply parW_op (ds := [98, 100]) rfl rfl rfl rfl (by kernel_rfl)
    · exact .inl ⟨(wt_none rfl), stepQ_pv (pv_lss rfl rfl rfl) rfl rfl⟩
    apply parW_op (ds := [101]) rfl rfl rfl rfl (by kernel_rfl)
    · exact .inl ⟨(wt_none rfl), stepQ_pv (pv_move rfl rfl) rfl rfl⟩
    apply parW_op (ds := [11, 102]) rfl rfl rfl rfl (by kernel_rfl)
    · exact .inl ⟨(wt_some' rfl rfl rfl rfl (by first | rfl | assumption | exact dT (by omega) | exact dF (by omega))), stepQ_pv (pv_move rfl rfl) rfl rfl⟩
    apply parW_op (ds := [13, 102]) rfl rfl rfl rfl (by kernel_rfl)
    · exact .inl ⟨(wt_some' rfl rfl rfl rfl (by first | rfl | assumption | exact dT (by omega) | exact dF (by omega))), stepQ_pv (pv_move rfl rfl) rfl rfl⟩
    apply parW_op (ds := [103, 104, 102]) rfl rfl rfl rfl (by kernel_rfl)
    · exact .inl ⟨(wt_some' rfl rfl rfl rfl (by first | rfl | assumption | exact dT (by omega) | exact dF (by omega))), stepQ_pv (pv_ix_t T0 rfl rfl rfl rfl (by omega) (by first | exact (rfl : Int.toNat 0 = 0) | exact Int.toNat_natCast _ | rfl)) rfl rfl⟩
    apply parW_op (ds := [105, 102]) rfl rfl rfl rfl (by kernel_rfl)
    · exact .inl ⟨(wt_some' rfl rfl rfl rfl (by first | rfl | assumption | exact dT (by omega) | exact dF (by omega))), stepQ_lv (lv_elt_ag T0 rfl rfl rfl rfl (by solve | repeat' constructor)) rfl rfl⟩
    apply parW_op (ds := [9, 102]) rfl rfl rfl rfl (by kernel_rfl)
    · exact .inl ⟨(wt_some' rfl rfl rfl rfl (by first | rfl | assumption | exact dT (by omega) | exact dF (by omega))), stepQ_pv (pv_move rfl rfl) rfl rfl⟩
    apply parW_op (ds := [13, 102]) rfl rfl rfl rfl (by kernel_rfl)
    · exact .inl ⟨(wt_some' rfl rfl rfl rfl (by first | rfl | assumption | exact dT (by omega) | exact dF (by omega))), stepQ_pv (pv_move rfl rfl) rfl rfl⟩
    apply parW_op (ds := [107, 108, 102]) rfl rfl rfl rfl (by kernel_rfl)
    · exact .inl ⟨(wt_some' rfl rfl rfl rfl (by first | rfl | assumption | exact dT (by omega) | exact dF (by omega))), stepQ_pv (pv_ix_t T0 rfl rfl rfl rfl (by omega) (by first | exact (rfl : Int.toNat 0 = 0) | exact Int.toNat_natCast _ | rfl)) rfl rfl⟩
    apply parW_op (ds := [109, 102]) rfl rfl rfl rfl (by kernel_rfl)
    · exact .inl ⟨(wt_some' rfl rfl rfl rfl (by first | rfl | assumption | exact dT (by omega) | exact dF (by omega))), stepQ_lv (lv_elt_ag T0 rfl rfl rfl rfl (by solve | repeat' constructor)) rfl rfl⟩
    apply parW_op (ds := [106, 110, 102]) rfl rfl rfl rfl (by kernel_rfl)
    · exact .inl ⟨(wt_some' rfl rfl rfl rfl (by first | rfl | assumption | exact dT (by omega) | exact dF (by omega))), stepQ_pv (pv_neq_sale (s := M.getD i default) (t := L.getD i default) rfl rfl rfl) rfl rfl⟩
    apply parW_op (ds := [102, 111]) rfl rfl rfl rfl (by kernel_rfl)
    · exact .inl ⟨(wt_none rfl), stepQ_pv (pv_pick_t rfl rfl (by first | rfl | assumption | exact dT (by omega) | exact dF (by omega)) rfl) rfl rfl⟩
    apply parW_op (ds := [112]) rfl rfl rfl rfl (by kernel_rfl)
    · exact .inl ⟨(wt_none rfl), stepQ_pv (pv_move rfl rfl) rfl rfl⟩
    apply parW_op (ds := [14, 113]) rfl rfl rfl rfl (by kernel_rfl)
    · exact .inl ⟨(wt_some' rfl rfl rfl rfl (by first | rfl | assumption | exact dT (by omega) | exact dF (by omega))), stepQ_pv (pv_move rfl rfl) rfl rfl⟩
    apply parW_op (ds := [13, 113]) rfl rfl rfl rfl (by kernel_rfl)
    · exact .inl ⟨(wt_some' rfl rfl rfl rfl (by first | rfl | assumption | exact dT (by omega) | exact dF (by omega))), stepQ_pv (pv_move rfl rfl) rfl rfl⟩
    apply parW_op (ds := [9, 113]) rfl rfl rfl rfl (by kernel_rfl)
    · exact .inl ⟨(wt_some' rfl rfl rfl rfl (by first | rfl | assumption | exact dT (by omega) | exact dF (by omega))), stepQ_pv (pv_move rfl rfl) rfl rfl⟩
    apply parW_op (ds := [116, 113]) rfl rfl rfl rfl (by kernel_rfl)
    · exact .inl ⟨(wt_some' rfl rfl rfl rfl (by first | rfl | assumption | exact dT (by omega) | exact dF (by omega))), stepQ_pv (pv_len_t T0 rfl rfl rfl) rfl rfl⟩
    apply parW_op (ds := [115, 117, 113]) rfl rfl rfl rfl (by kernel_rfl)
    · exact .inl ⟨(wt_some' rfl rfl rfl rfl (by first | rfl | assumption | exact dT (by omega) | exact dF (by omega))), stepQ_pv (pv_geq rfl rfl rfl) rfl rfl⟩
    apply parW_op (ds := [114, 118, 113]) rfl rfl rfl rfl (by kernel_rfl)
    · exact .inl ⟨(wt_some' rfl rfl rfl rfl (by first | rfl | assumption | exact dT (by omega) | exact dF (by omega))), stepQ_pv (pv_neqb rfl rfl rfl Try.underlying4) rfl rfl⟩
    apply parW_op (ds := [113, 119]) rfl rfl rfl rfl (by kernel_rfl)
    · exact .inl ⟨(wt_none rfl), stepQ_pv (pv_pick_f rfl rfl (by first | rfl | assumption | exact dT (by omega) | exact dF (by omega)) rfl) rfl rfl⟩
    refine parW_nil ?_
    rw [d3]
    exact cut_n ⟨rfl, rfl⟩ (by first | ((repeat' (first | exact True.intro | refine ⟨rfl, ?_⟩)); all_goals fail) | fail) (by solve | repeat' constructor)
  · obtain rfl := h2 c
    have d1 : decide ((i : Int) < L.length) = false := decide_eq_false (by omega)
    have d3 : (true != decide ((L.length : Int) ≤ i)) = false := by rw [decide_eq_true (by omega)]; rfl
    refine awp_par T0 (l := (0 :: 1 :: 2 :: 3 :: 4 :: 5 :: 6 :: 7 :: 8 :: 9 :: 10 :: 11 :: 12 :: 13 :: 14 :: 15 :: 16 :: 17 :: 18 :: 19 :: 20 :: 21 :: 22 :: [])) rfl (by kernel_rfl) (by kernel_rfl) ?_
    apply parW_op (ds := [13]) rfl rfl rfl rfl (by kernel_rfl)
    · exact .inl ⟨(wt_none rfl), stepQ_pv (pv_move rfl rfl) rfl rfl⟩
    apply parW_op (ds := [9]) rfl rfl rfl rfl (by kernel_rfl)
    · exact .inl ⟨(wt_none rfl), stepQ_pv (pv_move rfl rfl) rfl rfl⟩
    apply parW_op (ds := [99]) rfl rfl rfl rfl (by kernel_rfl)
    · exact .inl ⟨(wt_none rfl), stepQ_pv (pv_len_t T0 rfl rfl rfl) rfl rfl⟩
    apply parW_op (ds := [98, 100]) rfl rfl rfl rfl (by kernel_rfl)
    · exact .inl ⟨(wt_none rfl), stepQ_pv (pv_lss rfl rfl rfl) rfl rfl⟩
    apply parW_op (ds := [101]) rfl rfl rfl rfl (by kernel_rfl)
    · exact .inl ⟨(wt_none rfl), stepQ_pv (pv_move rfl rfl) rfl rfl⟩
    apply parW_op (ds := [11, 102]) rfl rfl rfl rfl (by kernel_rfl)
    · exact .inr ⟨(wf_some rfl rfl rfl rfl (by first | rfl | assumption | exact dT (by omega) | exact dF (by omega))), rfl⟩
    apply parW_op (ds := [13, 102]) rfl rfl rfl rfl (by kernel_rfl)
    · exact .inr ⟨(wf_some rfl rfl rfl rfl (by first | rfl | assumption | exact dT (by omega) | exact dF (by omega))), rfl⟩
    apply parW_op (ds := [103, 104, 102]) rfl rfl rfl rfl (by kernel_rfl)
    · exact .inr ⟨(wf_some rfl rfl rfl rfl (by first | rfl | assumption | exact dT (by omega) | exact dF (by omega))), rfl⟩
    apply parW_op (ds := [105, 102]) rfl rfl rfl rfl (by kernel_rfl)
    · exact .inr ⟨(wf_some rfl rfl rfl rfl (by first | rfl | assumption | exact dT (by omega) | exact dF (by omega))), rfl⟩
    apply parW_op (ds := [9, 102]) rfl rfl rfl rfl (by kernel_rfl)
    · exact .inr ⟨(wf_some rfl rfl rfl rfl (by first | rfl | assumption | exact dT (by omega) | exact dF (by omega))), rfl⟩
    apply parW_op (ds := [13, 102]) rfl rfl rfl rfl (by kernel_rfl)
    · exact .inr ⟨(wf_some rfl rfl rfl rfl (by first | rfl | assumption | exact dT (by omega) | exact dF (by omega))), rfl⟩
    apply parW_op (ds := [107, 108, 102]) rfl rfl rfl rfl (by kernel_rfl)
    · exact .inr ⟨(wf_some rfl rfl rfl rfl (by first | rfl | assumption | exact dT (by omega) | exact dF (by omega))), rfl⟩
    apply parW_op (ds := [109, 102]) rfl rfl rfl rfl (by kernel_rfl)
    · exact .inr ⟨(wf_some rfl rfl rfl rfl (by first | rfl | assumption | exact dT (by omega) | exact dF (by omega))), rfl⟩
    apply parW_op (ds := [106, 110, 102]) rfl rfl rfl rfl (by kernel_rfl)
    · exact .inr ⟨(wf_some rfl rfl rfl rfl (by first | rfl | assumption | exact dT (by omega) | exact dF (by omega))), rfl⟩
    apply parW_op (ds := [102, 111]) rfl rfl rfl rfl (by kernel_rfl)
    · exact .inl ⟨(wt_none rfl), stepQ_pv (pv_pick_f rfl rfl (by first | rfl | assumption | exact dT (by omega) | exact dF (by omega)) rfl) rfl rfl⟩
    apply parW_op (ds := [112]) rfl rfl rfl rfl (by kernel_rfl)
    · exact .inl ⟨(wt_none rfl), stepQ_pv (pv_move rfl rfl) rfl rfl⟩
    apply parW_op (ds := [14, 113]) rfl rfl rfl rfl (by kernel_rfl)
    · exact .inl ⟨(wt_some' rfl rfl rfl rfl (by first | rfl | assumption | exact dT (by omega) | exact dF (by omega))), stepQ_pv (pv_move rfl rfl) rfl rfl⟩
    apply parW_op (ds := [13, 113]) rfl rfl rfl rfl (by kernel_rfl)
    · exact .inl ⟨(wt_some' rfl rfl rfl rfl (by first | rfl | assumption | exact dT (by omega) | exact dF (by omega))), stepQ_pv (pv_move rfl rfl) rfl rfl⟩
    apply parW_op (ds := [9, 113]) rfl rfl rfl rfl (by kernel_rfl)
    · exact .inl ⟨(wt_some' rfl rfl rfl rfl (by first | rfl | assumption | exact dT (by omega) | exact dF (by omega))), stepQ_pv (pv_move rfl rfl) rfl rfl⟩
    apply parW_op (ds := [116, 113]) rfl rfl rfl rfl (by kernel_rfl)
    · exact .inl ⟨(wt_some' rfl rfl rfl rfl (by first | rfl | assumption | exact dT (by omega) | exact dF (by omega))), stepQ_pv (pv_len_t T0 rfl rfl rfl) rfl rfl⟩
    apply parW_op (ds := [115, 117, 113]) rfl rfl rfl rfl (by kernel_rfl)
    · exact .inl ⟨(wt_some' rfl rfl rfl rfl (by first | rfl | assumption | exact dT (by omega) | exact dF (by omega))), stepQ_pv (pv_geq rfl rfl rfl) rfl rfl⟩
    apply parW_op (ds := [114, 118, 113]) rfl rfl rfl rfl (by kernel_rfl)
    · exact .inl ⟨(wt_some' rfl rfl rfl rfl (by first | rfl | assumption | exact dT (by omega) | exact dF (by omega))), stepQ_pv (pv_neqb rfl rfl rfl Try.underlying4) rfl rfl⟩
    apply parW_op (ds := [113, 119]) rfl rfl rfl rfl (by kernel_rfl)
    · exact .inl ⟨(wt_none rfl), stepQ_pv (pv_pick_f rfl rfl (by first | rfl | assumption | exact dT (by omega) | exact dF (by omega)) rfl) rfl rfl⟩
    refine parW_nil ?_
    rw [d3]
    exact cut_n ⟨rfl, rfl⟩ (by first | ((repeat' (first | exact True.intro | refine ⟨rfl, ?_⟩)); all_goals fail) | fail) (by solve | repeat' constructor)
end
theorem list_o (cp : Bool) (l : List Int) (hl : l.length ≤ 1000) : ACall Try.prog 21 [.t (intsT cp l)] [] (fun r h' => ∃ a c, r = .v (.slice a l.length c) ∧ h' = [.rw (.slice a l.length c) 3 1 (l.map intRow)]) := by
  refine acall_of_awp T0 Try.func21 rfl rfl rfl ?_
  repeat (first | refine awp_seq ?_ | refine awp_region_lit rfl ?_ | ((first | (show AWL _ _ _ (⟨_, .move _, _, _, _, _⟩ :: _) _ _ _; refine awl_pw ?wtq (pv_move rfl rfl) rfl rfl ?_) | (show AWL _ _ _ (⟨_, .assign _, _, _, _, _⟩ :: _) _ _ _; refine awl_pw ?wtq (pv_assign rfl rfl) rfl rfl ?_)); case wtq => first | exact wt_none rfl | exact wt_some' rfl rfl rfl rfl (by first | rfl | assumption | exact dT (by omega) | exact dF (by omega))) | refine awl_nil ?_)
  refine awl_ghost (ghost_nilrow 3 1) ?_
  refine awl_hw (by first | exact wt_none rfl | exact wt_some' rfl rfl rfl rfl (by first | rfl | assumption | exact dT (by omega) | exact dF (by omega))) (st_appt T0 rfl rfl rfl rfl rfl rfl rfl rfl rfl (by solve | repeat' constructor) (by first | exact ordOne _ | (intro k hk u hu; simp at hu; subst hu; rfl)) (by (try simp only [List.length_nil, List.length_map, List.length_append, List.length_cons]); rfl) (by first | omega | (simp; omega)) (fun _ _ => trivial) rfl ?_)
  intro a c p
  simp only [List.nil_append, Nat.zero_add]
  rw [intRows_range]
  repeat (first | refine awp_ret ?_ | ((first | (show AWL _ _ _ (⟨_, .assign _, _, _, _, _⟩ :: _) _ _ _; refine awl_pw ?wtq (pv_assign rfl rfl) rfl rfl ?_)); case wtq => first | exact wt_none rfl | exact wt_some' rfl rfl rfl rfl (by first | rfl | assumption | exact dT (by omega) | exact dF (by omega))) | refine awl_nil ?_)
  exact body_r (h' := [.rw (.slice a l.length c) 3 1 (l.map intRow)]) (.cons rfl .nil) (by solve | repeat' constructor) ⟨a, c, rfl, rfl⟩
theorem PostLast_p (p : PostD) (ws : List Int) (m : OrdD) (hb : (p.ords.length + 1) * 40 ≤ 140737488355328) (hwl : ws.length ≤ 9223372036854775807) (hw : ∀ x ∈ ws, 0 ≤ x ∧ x ≤ 255) : PCall Try.prog 14 [postA false p, .t (kintsT .u8 ws), ordA m] (fun r => r = boolA true) := by
  have hl : p.ords.length + 1 ≤ 140737488355328 := Nat.le_trans (Nat.le_mul_of_pos_right _ (by decide)) hb
  refine acall_of_awp T0 Try.func14 rfl rfl rfl ?_
  repeat (first | refine awp_seq ?_ | refine awp_region_lit rfl ?_)
  refine awl_hw (by first | exact wt_none rfl | exact wt_some' rfl rfl rfl rfl (by first | rfl | assumption | exact dT (by omega) | exact dF (by omega))) (st_box rfl rfl (by first | rfl | assumption) (by first | assumption | (simp only [cellsA]; rfl)) rfl rfl ?_)
  intro g3
  skip
  refine awl_hw (by first | exact wt_none rfl | exact wt_some' rfl rfl rfl rfl (by first | rfl | assumption | exact dT (by omega) | exact dF (by omega))) (st_box rfl rfl (by first | rfl | assumption) (by first | assumption | (simp only [cellsA]; rfl)) rfl rfl ?_)
  intro g5
  repeat (first | refine awp_seq ?_ | ((first | (show AWL _ _ _ (⟨_, .assign _, _, _, _, _⟩ :: _) _ _ _; refine awl_pw ?wtq (pv_assign rfl rfl) rfl rfl ?_)); case wtq => first | exact wt_none rfl | exact wt_some' rfl rfl rfl rfl (by first | rfl | assumption | exact dT (by omega) | exact dF (by omega))) | refine awl_nil ?_)
  refine awp_cut _ (awp_weak (by first | ((repeat' (first | exact True.intro | refine ⟨rfl, ?_⟩)); all_goals fail) | fail) (by solve | repeat' constructor) (qs_1 (g3 := g3) (g5 := g5) (p := p) (m := m) (u1 := .t (kintsT .u8 ws)) (Nat.le_trans (Nat.le_succ _) (Nat.le_trans hl (by decide))) hb rfl)) ?_
  rintro s h ⟨g7, a7, c7, rfl, rfl⟩
  have hxl : (moreP p m).ords.length = p.ords.length + 1 := by simp
  have hrows : p.ords.map ordRow ++ [ordRow m] = (moreP p m).ords.map ordRow := by simp
  have htree := mix_tree (moreP p m)
  rw [hxl] at htree
  rw [hrows]
  refine awp_ghost (ghost_freeze_cell (g := g7) (j := 0) (v := .slice a7 (p.ords.length + 1) c7) (E := 58) (sz := 5) (n := p.ords.length + 1) (rows := (moreP p m).ords.map ordRow) (fun q => ordL ((moreP p m).ords.getD q default)) (by solve | repeat' constructor) (by solve | repeat' constructor) rfl rfl (by rw [List.length_map, hxl]) htree) ?_
  rw [show Tr.sl true 5 (p.ords.length + 1) (fun q => ordL ((moreP p m).ords.getD q default)) = ordsT true (moreP p m).ords from by rw [← hxl]; rfl]
  have hl1 : p.ords.length ≤ 9223372036854775807 := Nat.le_trans (Nat.le_succ _) (Nat.le_trans hl (by decide))
  have hl2 : (moreP p m).ords.length ≤ 9223372036854775807 := by rw [hxl]; exact Nat.le_trans hl (by decide)
  clear hb hl htree hrows
  cases hrd : (decide (p.ords.length ≤ 9) && decide (faultN p = 0))
  · have hR := ready_q hl1 hrd
    repeat (first | refine awp_seq ?_ | refine awp_region_lit rfl ?_ | ((first | (show AWL _ _ _ (⟨_, .load _ _, _, _, _, _⟩ :: _) _ _ _; refine awl_lw ?wtq (lv_cla T0 rfl rfl rfl (by solve | repeat' constructor) rfl) rfl rfl rfl ?_)); case wtq => first | exact wt_none rfl | exact wt_some' rfl rfl rfl rfl (by first | rfl | assumption | exact dT (by omega) | exact dF (by omega))))
    refine awl_hw (by first | exact wt_none rfl | exact wt_some' rfl rfl rfl rfl (by first | rfl | assumption | exact dT (by omega) | exact dF (by omega))) (st_call T0 (hR) rfl rfl rfl rfl (by first | exact callee_lit | exact callee_v | exact callee_fn | assumption) (by solve | repeat' constructor) (by first | rfl | assumption) rfl ?_)
    rintro _ rfl
    repeat (first | refine awp_seq ?_ | refine awp_region_lit rfl ?_ | refine then_n ?_ | refine awp_cond_t rfl (by first | rfl | assumption | exact dT (by omega)) ?_ | ((first | (show AWL _ _ _ (⟨_, .move _, _, _, _, _⟩ :: _) _ _ _; refine awl_pw ?wtq (pv_move rfl rfl) rfl rfl ?_) | (show AWL _ _ _ (⟨_, .load _ _, _, _, _, _⟩ :: _) _ _ _; refine awl_lw ?wtq (lv_cla T0 rfl rfl rfl (by solve | repeat' constructor) rfl) rfl rfl rfl ?_) | (show AWL _ _ _ (⟨_, .fieldAddr _ _ _, _, _, _, _⟩ :: _) _ _ _; refine awl_pw ?wtq (pv_fa T0 rfl rfl rfl (by simp; rfl)) rfl rfl ?_) | (show AWL _ _ _ (⟨_, .unOp .not _ _, _, _, _, _⟩ :: _) _ _ _; refine awl_pw ?wtq (pv_not rfl rfl) rfl rfl ?_) | (show AWL _ _ _ (⟨_, .pick _ _ _, _, _, _, _⟩ :: _) _ _ _; refine awl_pw ?wtq (pv_pick_t rfl rfl (by first | rfl | assumption | exact dT (by omega) | exact dF (by omega)) rfl) rfl rfl ?_)); case wtq => first | exact wt_none rfl | exact wt_some' rfl rfl rfl rfl (by first | rfl | assumption | exact dT (by omega) | exact dF (by omega))) | refine awl_sk (wf_some rfl rfl rfl rfl (by first | rfl | assumption | exact dT (by omega) | exact dF (by omega))) rfl rfl ?_ | refine awl_nil ?_)
    refine awl_hw (by first | exact wt_none rfl | exact wt_some' rfl rfl rfl rfl (by first | rfl | assumption | exact dT (by omega) | exact dF (by omega))) (st_call T0 (awake_p) rfl rfl rfl rfl (by first | exact callee_lit | exact callee_v | exact callee_fn | assumption) (by solve | repeat' constructor) (by first | rfl | assumption) rfl ?_)
    rintro _ rfl
    repeat (first | refine awp_ret ?_ | refine then_r ?_ | ((first | (show AWL _ _ _ (⟨_, .assign _, _, _, _, _⟩ :: _) _ _ _; refine awl_pw ?wtq (pv_assign rfl rfl) rfl rfl ?_)); case wtq => first | exact wt_none rfl | exact wt_some' rfl rfl rfl rfl (by first | rfl | assumption | exact dT (by omega) | exact dF (by omega))) | refine awl_nil ?_)
    exact body_p (.cons rfl .nil) rfl
  have hR := ready_q hl1 hrd
  rw [Bool.and_eq_true] at hrd
  have h0 : faultN p = 0 := of_decide_eq_true hrd.2
  have hv := vpost h0
  cases hrx : (decide ((moreP p m).ords.length ≤ 9) && decide (faultN (moreP p m) = 0))
  · have hX := pcall_weak (ready_q hl2 hrx) (.cons (postA_le (cp := true) _) .nil)
    repeat (first | refine awp_seq ?_ | refine awp_region_lit rfl ?_ | ((first | (show AWL _ _ _ (⟨_, .load _ _, _, _, _, _⟩ :: _) _ _ _; refine awl_lw ?wtq (lv_cla T0 rfl rfl rfl (by solve | repeat' constructor) rfl) rfl rfl rfl ?_)); case wtq => first | exact wt_none rfl | exact wt_some' rfl rfl rfl rfl (by first | rfl | assumption | exact dT (by omega) | exact dF (by omega))))
    refine awl_hw (by first | exact wt_none rfl | exact wt_some' rfl rfl rfl rfl (by first | rfl | assumption | exact dT (by omega) | exact dF (by omega))) (st_call T0 (hR) rfl rfl rfl rfl (by first | exact callee_lit | exact callee_v | exact callee_fn | assumption) (by solve | repeat' constructor) (by first | rfl | assumption) rfl ?_)
    rintro _ rfl
    repeat (first | ((first | (show AWL _ _ _ (⟨_, .move _, _, _, _, _⟩ :: _) _ _ _; refine awl_pw ?wtq (pv_move rfl rfl) rfl rfl ?_) | (show AWL _ _ _ (⟨_, .load _ _, _, _, _, _⟩ :: _) _ _ _; refine awl_lw ?wtq (lv_cla T0 rfl rfl rfl (by solve | repeat' constructor) rfl) rfl rfl rfl ?_) | (show AWL _ _ _ (⟨_, .unOp .not _ _, _, _, _, _⟩ :: _) _ _ _; refine awl_pw ?wtq (pv_not rfl rfl) rfl rfl ?_)); case wtq => first | exact wt_none rfl | exact wt_some' rfl rfl rfl rfl (by first | rfl | assumption | exact dT (by omega) | exact dF (by omega))))
    refine awl_hw (by first | exact wt_none rfl | exact wt_some' rfl rfl rfl rfl (by first | rfl | assumption | exact dT (by omega) | exact dF (by omega))) (st_call T0 (hX) rfl rfl rfl rfl (by first | exact callee_lit | exact callee_v | exact callee_fn | assumption) (by solve | repeat' constructor) (by first | rfl | assumption) rfl ?_)
    rintro _ rfl
    repeat (first | refine awp_seq ?_ | refine awp_region_lit rfl ?_ | refine then_n ?_ | refine awp_cond_t rfl (by first | rfl | assumption | exact dT (by omega)) ?_ | ((first | (show AWL _ _ _ (⟨_, .move _, _, _, _, _⟩ :: _) _ _ _; refine awl_pw ?wtq (pv_move rfl rfl) rfl rfl ?_) | (show AWL _ _ _ (⟨_, .fieldAddr _ _ _, _, _, _, _⟩ :: _) _ _ _; refine awl_pw ?wtq (pv_fa T0 rfl rfl rfl (by simp; rfl)) rfl rfl ?_) | (show AWL _ _ _ (⟨_, .unOp .not _ _, _, _, _, _⟩ :: _) _ _ _; refine awl_pw ?wtq (pv_not rfl rfl) rfl rfl ?_) | (show AWL _ _ _ (⟨_, .pick _ _ _, _, _, _, _⟩ :: _) _ _ _; refine awl_pw ?wtq (pv_pick_t rfl rfl (by first | rfl | assumption | exact dT (by omega) | exact dF (by omega)) rfl) rfl rfl ?_) | (show AWL _ _ _ (⟨_, .pick _ _ _, _, _, _, _⟩ :: _) _ _ _; refine awl_pw ?wtq (pv_pick_f rfl rfl (by first | rfl | assumption | exact dT (by omega) | exact dF (by omega)) rfl) rfl rfl ?_)); case wtq => first | exact wt_none rfl | exact wt_some' rfl rfl rfl rfl (by first | rfl | assumption | exact dT (by omega) | exact dF (by omega))) | refine awl_sk (wf_some rfl rfl rfl rfl (by first | rfl | assumption | exact dT (by omega) | exact dF (by omega))) rfl rfl ?_ | refine awl_nil ?_)
    refine awl_hw (by first | exact wt_none rfl | exact wt_some' rfl rfl rfl rfl (by first | rfl | assumption | exact dT (by omega) | exact dF (by omega))) (st_call T0 (awake_p) rfl rfl rfl rfl (by first | exact callee_lit | exact callee_v | exact callee_fn | assumption) (by solve | repeat' constructor) (by first | rfl | assumption) rfl ?_)
    rintro _ rfl
    repeat (first | refine awp_ret ?_ | refine then_r ?_ | ((first | (show AWL _ _ _ (⟨_, .assign _, _, _, _, _⟩ :: _) _ _ _; refine awl_pw ?wtq (pv_assign rfl rfl) rfl rfl ?_)); case wtq => first | exact wt_none rfl | exact wt_some' rfl rfl rfl rfl (by first | rfl | assumption | exact dT (by omega) | exact dF (by omega))) | refine awl_nil ?_)
    exact body_p (.cons rfl .nil) rfl
  have hX := pcall_weak (ready_q hl2 hrx) (.cons (postA_le (cp := true) _) .nil)
  rw [Bool.and_eq_true] at hrx
  have h0x : faultN (moreP p m) = 0 := of_decide_eq_true hrx.2
  have hvx := vpost h0x
  have hlen := hv.len
  have hlx := hvx.len
  by_cases hm : m.hi = 30
  case neg =>
    have dm : decide (m.hi ≠ 30) = true := decide_eq_true hm
    repeat (first | refine awp_seq ?_ | refine awp_region_lit rfl ?_ | ((first | (show AWL _ _ _ (⟨_, .load _ _, _, _, _, _⟩ :: _) _ _ _; refine awl_lw ?wtq (lv_cla T0 rfl rfl rfl (by solve | repeat' constructor) rfl) rfl rfl rfl ?_)); case wtq => first | exact wt_none rfl | exact wt_some' rfl rfl rfl rfl (by first | rfl | assumption | exact dT (by omega) | exact dF (by omega))))
    refine awl_hw (by first | exact wt_none rfl | exact wt_some' rfl rfl rfl rfl (by first | rfl | assumption | exact dT (by omega) | exact dF (by omega))) (st_call T0 (hR) rfl rfl rfl rfl (by first | exact callee_lit | exact callee_v | exact callee_fn | assumption) (by solve | repeat' constructor) (by first | rfl | assumption) rfl ?_)
    rintro _ rfl
    repeat (first | ((first | (show AWL _ _ _ (⟨_, .move _, _, _, _, _⟩ :: _) _ _ _; refine awl_pw ?wtq (pv_move rfl rfl) rfl rfl ?_) | (show AWL _ _ _ (⟨_, .load _ _, _, _, _, _⟩ :: _) _ _ _; refine awl_lw ?wtq (lv_cla T0 rfl rfl rfl (by solve | repeat' constructor) rfl) rfl rfl rfl ?_) | (show AWL _ _ _ (⟨_, .unOp .not _ _, _, _, _, _⟩ :: _) _ _ _; refine awl_pw ?wtq (pv_not rfl rfl) rfl rfl ?_)); case wtq => first | exact wt_none rfl | exact wt_some' rfl rfl rfl rfl (by first | rfl | assumption | exact dT (by omega) | exact dF (by omega))))
    refine awl_hw (by first | exact wt_none rfl | exact wt_some' rfl rfl rfl rfl (by first | rfl | assumption | exact dT (by omega) | exact dF (by omega))) (st_call T0 (hX) rfl rfl rfl rfl (by first | exact callee_lit | exact callee_v | exact callee_fn | assumption) (by solve | repeat' constructor) (by first | rfl | assumption) rfl ?_)
    rintro _ rfl
    repeat (first | refine awp_seq ?_ | refine awp_region_lit rfl ?_ | refine then_n ?_ | refine awp_cond_t rfl (by first | rfl | assumption | exact dT (by omega)) ?_ | ((first | (show AWL _ _ _ (⟨_, .move _, _, _, _, _⟩ :: _) _ _ _; refine awl_pw ?wtq (pv_move rfl rfl) rfl rfl ?_) | (show AWL _ _ _ (⟨_, .load _ _, _, _, _, _⟩ :: _) _ _ _; refine awl_lw ?wtq (lv_cl1 T0 rfl rfl rfl (by solve | repeat' constructor) (by first | rfl | assumption)) rfl rfl rfl ?_) | (show AWL _ _ _ (⟨_, .fieldAddr _ _ _, _, _, _, _⟩ :: _) _ _ _; refine awl_pw ?wtq (pv_fa T0 rfl rfl rfl (by simp; rfl)) rfl rfl ?_) | (show AWL _ _ _ (⟨_, .binOp .neq _ _ _ _, _, _, _, _⟩ :: _) _ _ _; refine awl_pw ?wtq (pv_neq rfl rfl rfl) rfl rfl ?_) | (show AWL _ _ _ (⟨_, .unOp .not _ _, _, _, _, _⟩ :: _) _ _ _; refine awl_pw ?wtq (pv_not rfl rfl) rfl rfl ?_) | (show AWL _ _ _ (⟨_, .pick _ _ _, _, _, _, _⟩ :: _) _ _ _; refine awl_pw ?wtq (pv_pick_f rfl rfl (by first | rfl | assumption | exact dT (by omega) | exact dF (by omega)) rfl) rfl rfl ?_)); case wtq => first | exact wt_none rfl | exact wt_some' rfl rfl rfl rfl (by first | rfl | assumption | exact dT (by omega) | exact dF (by omega))) | refine awl_nil ?_)
    refine awl_hw (by first | exact wt_none rfl | exact wt_some' rfl rfl rfl rfl (by first | rfl | assumption | exact dT (by omega) | exact dF (by omega))) (st_call T0 (awake_p) rfl rfl rfl rfl (by first | exact callee_lit | exact callee_v | exact callee_fn | assumption) (by solve | repeat' constructor) (by first | rfl | assumption) rfl ?_)
    rintro _ rfl
    repeat (first | refine awp_ret ?_ | refine then_r ?_ | ((first | (show AWL _ _ _ (⟨_, .assign _, _, _, _, _⟩ :: _) _ _ _; refine awl_pw ?wtq (pv_assign rfl rfl) rfl rfl ?_)); case wtq => first | exact wt_none rfl | exact wt_some' rfl rfl rfl rfl (by first | rfl | assumption | exact dT (by omega) | exact dF (by omega))) | refine awl_nil ?_)
    exact body_p (.cons rfl .nil) rfl
  have dm : decide (m.hi ≠ 30) = false := decide_eq_false (fun h => h hm)
  have ht := pick_truth hv hw
  have htl := pick_len p ws p.ords.length
  have hPk := picked_p p ws hv hwl hw
  generalize pickL p ws p.ords.length = t at *
  have htx := more_truth hvx ht hm
  have hP := Play_p true true p t (by omega) (by omega)
  have hPR : playR p t = (playT p t, 0) := by unfold playR; rw [if_neg (fun h => h h0), if_pos ht]
  rw [hPR] at hP
  have htl2 : (t ++ [(30 : Int)]).length = t.length + 1 := by simp
  have hPx := Play_p true true (moreP p m) (t ++ [30]) (by omega) (by omega)
  have hPRx : playR (moreP p m) (t ++ [30]) = (playT (moreP p m) (t ++ [30]), 0) := by unfold playR; rw [if_neg (fun h => h h0x), if_pos htx]
  rw [hPRx] at hPx
  obtain ⟨l2, hM, hl2'⟩ := more_play hvx hv ht hm
  have hS := play_sok hv ht
  have hLl := (play_fair hv ht).len
  have hMl := (play_fair hvx htx).len
  have hpw := post_w true (moreP p m) (by omega)
  have hP' : PCall Try.prog 19 [postA true p, .t (intsT true t)] (fun r => r = .tup [.t (salesT true (playT p t)), intA 0]) := hP
  have hPx' : PCall Try.prog 19 [postA true (moreP p m), .t (intsT true (t ++ [30]))] (fun r => r = .tup [.t (salesT true (playT (moreP p m) (t ++ [30]))), intA 0]) := hPx
  clear hP hPx hPR hPRx htx
  generalize playT p t = L at *
  generalize playT (moreP p m) (t ++ [30]) = M at *
  generalize moreP p m = x at *
  have hlst := list_o true t (by omega)
  have htr : (t.map intRow).length = t.length := List.length_map _
  have dM : decide ((M.length : Int) < L.length) = false := decide_eq_false (by rw [hM, List.length_append]; omega)
  repeat (first | refine awp_seq ?_ | refine awp_region_lit rfl ?_ | ((first | (show AWL _ _ _ (⟨_, .load _ _, _, _, _, _⟩ :: _) _ _ _; refine awl_lw ?wtq (lv_cla T0 rfl rfl rfl (by solve | repeat' constructor) rfl) rfl rfl rfl ?_)); case wtq => first | exact wt_none rfl | exact wt_some' rfl rfl rfl rfl (by first | rfl | assumption | exact dT (by omega) | exact dF (by omega))))
  refine awl_hw (by first | exact wt_none rfl | exact wt_some' rfl rfl rfl rfl (by first | rfl | assumption | exact dT (by omega) | exact dF (by omega))) (st_call T0 (hR) rfl rfl rfl rfl (by first | exact callee_lit | exact callee_v | exact callee_fn | assumption) (by solve | repeat' constructor) (by first | rfl | assumption) rfl ?_)
  rintro _ rfl
  repeat (first | ((first | (show AWL _ _ _ (⟨_, .move _, _, _, _, _⟩ :: _) _ _ _; refine awl_pw ?wtq (pv_move rfl rfl) rfl rfl ?_) | (show AWL _ _ _ (⟨_, .load _ _, _, _, _, _⟩ :: _) _ _ _; refine awl_lw ?wtq (lv_cla T0 rfl rfl rfl (by solve | repeat' constructor) rfl) rfl rfl rfl ?_) | (show AWL _ _ _ (⟨_, .unOp .not _ _, _, _, _, _⟩ :: _) _ _ _; refine awl_pw ?wtq (pv_not rfl rfl) rfl rfl ?_)); case wtq => first | exact wt_none rfl | exact wt_some' rfl rfl rfl rfl (by first | rfl | assumption | exact dT (by omega) | exact dF (by omega))))
  refine awl_hw (by first | exact wt_none rfl | exact wt_some' rfl rfl rfl rfl (by first | rfl | assumption | exact dT (by omega) | exact dF (by omega))) (st_call T0 (hX) rfl rfl rfl rfl (by first | exact callee_lit | exact callee_v | exact callee_fn | assumption) (by solve | repeat' constructor) (by first | rfl | assumption) rfl ?_)
  rintro _ rfl
  repeat (first | refine awp_seq ?_ | refine awp_region_lit rfl ?_ | refine awp_skip ?_ | refine then_n ?_ | refine awp_cond_f rfl (by first | rfl | assumption | exact dF (by omega)) ?_ | ((first | (show AWL _ _ _ (⟨_, .move _, _, _, _, _⟩ :: _) _ _ _; refine awl_pw ?wtq (pv_move rfl rfl) rfl rfl ?_) | (show AWL _ _ _ (⟨_, .load _ _, _, _, _, _⟩ :: _) _ _ _; refine awl_lw ?wtq (lv_cl1 T0 rfl rfl rfl (by solve | repeat' constructor) (by first | rfl | assumption)) rfl rfl rfl ?_) | (show AWL _ _ _ (⟨_, .load _ _, _, _, _, _⟩ :: _) _ _ _; refine awl_lw ?wtq (lv_cla T0 rfl rfl rfl (by solve | repeat' constructor) rfl) rfl rfl rfl ?_) | (show AWL _ _ _ (⟨_, .fieldAddr _ _ _, _, _, _, _⟩ :: _) _ _ _; refine awl_pw ?wtq (pv_fa T0 rfl rfl rfl (by simp; rfl)) rfl rfl ?_) | (show AWL _ _ _ (⟨_, .binOp .neq _ _ _ _, _, _, _, _⟩ :: _) _ _ _; refine awl_pw ?wtq (pv_neq rfl rfl rfl) rfl rfl ?_) | (show AWL _ _ _ (⟨_, .unOp .not _ _, _, _, _, _⟩ :: _) _ _ _; refine awl_pw ?wtq (pv_not rfl rfl) rfl rfl ?_) | (show AWL _ _ _ (⟨_, .pick _ _ _, _, _, _, _⟩ :: _) _ _ _; refine awl_pw ?wtq (pv_pick_f rfl rfl (by first | rfl | assumption | exact dT (by omega) | exact dF (by omega)) rfl) rfl rfl ?_)); case wtq => first | exact wt_none rfl | exact wt_some' rfl rfl rfl rfl (by first | rfl | assumption | exact dT (by omega) | exact dF (by omega))) | refine awl_nil ?_)
  refine awl_hw (by first | exact wt_none rfl | exact wt_some' rfl rfl rfl rfl (by first | rfl | assumption | exact dT (by omega) | exact dF (by omega))) (st_call T0 (hPk) rfl rfl rfl rfl (by first | exact callee_lit | exact callee_v | exact callee_fn | assumption) (by solve | repeat' constructor) (by first | rfl | assumption) rfl ?_)
  rintro _ rfl
  repeat (first | refine awp_seq ?_ | refine awp_region_lit rfl ?_ | ((first | (show AWL _ _ _ (⟨_, .assign _, _, _, _, _⟩ :: _) _ _ _; refine awl_pw ?wtq (pv_assign rfl rfl) rfl rfl ?_) | (show AWL _ _ _ (⟨_, .load _ _, _, _, _, _⟩ :: _) _ _ _; refine awl_lw ?wtq (lv_cla T0 rfl rfl rfl (by solve | repeat' constructor) rfl) rfl rfl rfl ?_)); case wtq => first | exact wt_none rfl | exact wt_some' rfl rfl rfl rfl (by first | rfl | assumption | exact dT (by omega) | exact dF (by omega))) | refine awl_nil ?_)
  refine awl_hw (by first | exact wt_none rfl | exact wt_some' rfl rfl rfl rfl (by first | rfl | assumption | exact dT (by omega) | exact dF (by omega))) (st_call T0 (post_p p (by omega)) rfl rfl rfl rfl (by first | exact callee_lit | exact callee_v | exact callee_fn | assumption) (by solve | repeat' constructor) (by first | rfl | assumption) rfl ?_)
  rintro _ rfl
  repeat (first | ((first | (show AWL _ _ _ (⟨_, .move _, _, _, _, _⟩ :: _) _ _ _; refine awl_pw ?wtq (pv_move rfl rfl) rfl rfl ?_)); case wtq => first | exact wt_none rfl | exact wt_some' rfl rfl rfl rfl (by first | rfl | assumption | exact dT (by omega) | exact dF (by omega))))
  refine awl_hw (by first | exact wt_none rfl | exact wt_some' rfl rfl rfl rfl (by first | rfl | assumption | exact dT (by omega) | exact dF (by omega))) (st_call T0 (list_p true t (by omega)) rfl rfl rfl rfl (by first | exact callee_lit | exact callee_v | exact callee_fn | assumption) (by solve | repeat' constructor) (by first | rfl | assumption) rfl ?_)
  rintro _ rfl
  skip
  refine awl_hw (by first | exact wt_none rfl | exact wt_some' rfl rfl rfl rfl (by first | rfl | assumption | exact dT (by omega) | exact dF (by omega))) (st_call T0 (hP') rfl rfl rfl rfl (by first | exact callee_lit | exact callee_v | exact callee_fn | assumption) (by solve | repeat' constructor) (by first | rfl | assumption) rfl ?_)
  rintro _ rfl
  repeat (first | refine awp_seq ?_ | refine awp_region_lit rfl ?_ | ((first | (show AWL _ _ _ (⟨_, .move _, _, _, _, _⟩ :: _) _ _ _; refine awl_pw ?wtq (pv_move rfl rfl) rfl rfl ?_) | (show AWL _ _ _ (⟨_, .assign _, _, _, _, _⟩ :: _) _ _ _; refine awl_pw ?wtq (pv_assign rfl rfl) rfl rfl ?_) | (show AWL _ _ _ (⟨_, .load _ _, _, _, _, _⟩ :: _) _ _ _; refine awl_lw ?wtq (lv_cla T0 rfl rfl rfl (by solve | repeat' constructor) rfl) rfl rfl rfl ?_) | (show AWL _ _ _ (⟨_, .extract _ _, _, _, _, _⟩ :: _) _ _ _; refine awl_pw ?wtq (pv_extract rfl rfl rfl) rfl rfl ?_)); case wtq => first | exact wt_none rfl | exact wt_some' rfl rfl rfl rfl (by first | rfl | assumption | exact dT (by omega) | exact dF (by omega))) | refine awl_nil ?_)
  refine awl_hw (by first | exact wt_none rfl | exact wt_some' rfl rfl rfl rfl (by first | rfl | assumption | exact dT (by omega) | exact dF (by omega))) (st_call T0 (hpw) rfl rfl rfl rfl (by first | exact callee_lit | exact callee_v | exact callee_fn | assumption) (by solve | repeat' constructor) (by first | rfl | assumption) rfl ?_)
  rintro _ rfl
  repeat (first | ((first | (show AWL _ _ _ (⟨_, .move _, _, _, _, _⟩ :: _) _ _ _; refine awl_pw ?wtq (pv_move rfl rfl) rfl rfl ?_)); case wtq => first | exact wt_none rfl | exact wt_some' rfl rfl rfl rfl (by first | rfl | assumption | exact dT (by omega) | exact dF (by omega))))
  refine awl_hw (by first | exact wt_none rfl | exact wt_some' rfl rfl rfl rfl (by first | rfl | assumption | exact dT (by omega) | exact dF (by omega))) (st_acall T0 (hlst) rfl rfl rfl rfl (by first | exact callee_lit | exact callee_v | exact callee_fn | assumption) (by solve | repeat' constructor) (by first | rfl | assumption) rfl (by first | ((repeat' (first | exact SubH.refl _ | apply SubH.cons | exact Pick.here | apply Pick.there)); all_goals fail) | fail) (fun _ _ => trivial) ?_)
  rintro _ _ ⟨a53, c53, rfl, rfl⟩
  simp only [List.cons_append, List.nil_append]
  skip
  refine awl_hw (by first | exact wt_none rfl | exact wt_some' rfl rfl rfl rfl (by first | rfl | assumption | exact dT (by omega) | exact dF (by omega))) (st_bsl T0 rfl rfl rfl rfl rfl (by solve | repeat' constructor) rfl rfl rfl rfl (by simp only [List.map_cons, List.map_nil, cellsA]; rfl) ?_)
  intro g54
  skip
  refine awl_hw (by first | exact wt_none rfl | exact wt_some' rfl rfl rfl rfl (by first | rfl | assumption | exact dT (by omega) | exact dF (by omega))) (st_app T0 rfl rfl rfl rfl rfl rfl rfl rfl rfl (by solve | repeat' constructor) (by solve | repeat' constructor) rfl rfl htr (by omega) (fun _ _ => trivial) ?_)
  intro a55 c55 p55
  rw [show t.map intRow ++ [[AV.v (Value.int IntKind.i64 30)]] = (t ++ [30]).map intRow from by simp [intRow]]
  refine awl_ghost (ghost_ints (d := 55) (n := t.length + 1) (t ++ [30]) (by solve | repeat' constructor) rfl) ?_
  skip
  refine awl_hw (by first | exact wt_none rfl | exact wt_some' rfl rfl rfl rfl (by first | rfl | assumption | exact dT (by omega) | exact dF (by omega))) (st_call T0 (hPx') rfl rfl rfl rfl (by first | exact callee_lit | exact callee_v | exact callee_fn | assumption) (by solve | repeat' constructor) (by first | rfl | assumption) rfl ?_)
  rintro _ rfl
  repeat (first | refine awp_seq ?_ | refine awp_block ?_ | refine awp_region_lit rfl ?_ | refine awp_skip ?_ | refine then_n ?_ | refine awp_cond_f rfl (by first | rfl | assumption | exact dF (by omega)) ?_ | ((first | (show AWL _ _ _ (⟨_, .move _, _, _, _, _⟩ :: _) _ _ _; refine awl_pw ?wtq (pv_move rfl rfl) rfl rfl ?_) | (show AWL _ _ _ (⟨_, .assign _, _, _, _, _⟩ :: _) _ _ _; refine awl_pw ?wtq (pv_assign rfl rfl) rfl rfl ?_) | (show AWL _ _ _ (⟨_, .binOp .lss _ _ _ _, _, _, _, _⟩ :: _) _ _ _; refine awl_pw ?wtq (pv_lss rfl rfl rfl) rfl rfl ?_) | (show AWL _ _ _ (⟨_, .binOp .neq _ _ _ _, _, _, _, _⟩ :: _) _ _ _; refine awl_pw ?wtq (pv_neq rfl rfl rfl) rfl rfl ?_) | (show AWL _ _ _ (⟨_, .call ⟨.builtin .len, _, _⟩, _, _, _, _⟩ :: _) _ _ _; refine awl_pw ?wtq (pv_len_t T0 rfl rfl rfl) rfl rfl ?_) | (show AWL _ _ _ (⟨_, .extract _ _, _, _, _, _⟩ :: _) _ _ _; refine awl_pw ?wtq (pv_extract rfl rfl rfl) rfl rfl ?_) | (show AWL _ _ _ (⟨_, .pick _ _ _, _, _, _, _⟩ :: _) _ _ _; refine awl_pw ?wtq (pv_pick_f rfl rfl (by first | rfl | assumption | exact dT (by omega) | exact dF (by omega)) rfl) rfl rfl ?_)); case wtq => first | exact wt_none rfl | exact wt_some' rfl rfl rfl rfl (by first | rfl | assumption | exact dT (by omega) | exact dF (by omega))) | refine awl_nil ?_)
  refine awp_loop (fun q s h => ∃ (i : Nat), i ≤ M.length ∧ q = M.length - i ∧ s = [(3, .v (ptrV g3)), (9, .t (salesT true L)), (11, .t (salesT true M)), (13, intA i)] ∧ h = [.cl g3 24 [.t (ordsT false p.ords)]]) ?_ ⟨0, Nat.zero_le _, rfl, rfl, rfl⟩ (by first | ((repeat' (first | exact True.intro | refine ⟨rfl, ?_⟩)); all_goals fail) | fail) (by solve | repeat' constructor)
  rintro q s h ⟨i, hi, rfl, rfl, rfl⟩
  by_cases hit : i < M.length
  case neg =>
    repeat (first | refine awp_seq ?_ | refine awp_region_lit rfl ?_ | refine awp_exit ?_ | refine then_n ?_ | refine awp_cond_f rfl (by first | rfl | assumption | exact dF (by omega)) ?_ | ((first | (show AWL _ _ _ (⟨_, .move _, _, _, _, _⟩ :: _) _ _ _; refine awl_pw ?wtq (pv_move rfl rfl) rfl rfl ?_) | (show AWL _ _ _ (⟨_, .binOp .lss _ _ _ _, _, _, _, _⟩ :: _) _ _ _; refine awl_pw ?wtq (pv_lss rfl rfl rfl) rfl rfl ?_) | (show AWL _ _ _ (⟨_, .call ⟨.builtin .len, _, _⟩, _, _, _, _⟩ :: _) _ _ _; refine awl_pw ?wtq (pv_len_t T0 rfl rfl rfl) rfl rfl ?_)); case wtq => first | exact wt_none rfl | exact wt_some' rfl rfl rfl rfl (by first | rfl | assumption | exact dT (by omega) | exact dF (by omega))) | refine awl_nil ?_)
    refine awl_hw (by first | exact wt_none rfl | exact wt_some' rfl rfl rfl rfl (by first | rfl | assumption | exact dT (by omega) | exact dF (by omega))) (st_call T0 (awake_p) rfl rfl rfl rfl (by first | exact callee_lit | exact callee_v | exact callee_fn | assumption) (by solve | repeat' constructor) (by first | rfl | assumption) rfl ?_)
    rintro _ rfl
    repeat (first | refine awp_ret ?_ | ((first | (show AWL _ _ _ (⟨_, .assign _, _, _, _, _⟩ :: _) _ _ _; refine awl_pw ?wtq (pv_assign rfl rfl) rfl rfl ?_)); case wtq => first | exact wt_none rfl | exact wt_some' rfl rfl rfl rfl (by first | rfl | assumption | exact dT (by omega) | exact dF (by omega))) | refine awl_nil ?_)
    exact body_p (.cons rfl .nil) rfl
  have hfacts : (i < L.length → M.getD i default = L.getD i default ∧ decide ((M.getD i default).buyer = (p.ords.length : Int) ∨ (M.getD i default).seller = (p.ords.length : Int)) = false) ∧ (¬ i < L.length → decide ((M.getD i default).buyer = (p.ords.length : Int) ∨ (M.getD i default).seller = (p.ords.length : Int)) = true) := by
    constructor
    · intro hc
      have e : M.getD i default = L.getD i default := by
        rw [hM, List.getD_eq_getElem?_getD, List.getElem?_append_left hc, ← List.getD_eq_getElem?_getD]
      have hs := hS _ (getD_mem (d := default) hc)
      have h1 := hs.bl
      have h2 := hs.sl
      rw [e]
      exact ⟨rfl, decide_eq_false (fun h => by omega)⟩
    · intro hc
      have hmem : M.getD i default ∈ l2 := by
        rw [hM] at hit ⊢
        rw [List.length_append] at hit
        rw [List.getD_eq_getElem?_getD, List.getElem?_append_right (by omega), ← List.getD_eq_getElem?_getD]
        exact getD_mem (by omega)
      exact decide_eq_true (hl2' _ hmem)
  repeat (first | refine awp_seq ?_ | refine awp_block ?_ | refine awp_region_lit rfl ?_ | refine awp_skip ?_ | refine then_n ?_ | refine awp_cond_t rfl (by first | rfl | assumption | exact dT (by omega)) ?_ | ((first | (show AWL _ _ _ (⟨_, .move _, _, _, _, _⟩ :: _) _ _ _; refine awl_pw ?wtq (pv_move rfl rfl) rfl rfl ?_) | (show AWL _ _ _ (⟨_, .binOp .lss _ _ _ _, _, _, _, _⟩ :: _) _ _ _; refine awl_pw ?wtq (pv_lss rfl rfl rfl) rfl rfl ?_) | (show AWL _ _ _ (⟨_, .call ⟨.builtin .len, _, _⟩, _, _, _, _⟩ :: _) _ _ _; refine awl_pw ?wtq (pv_len_t T0 rfl rfl rfl) rfl rfl ?_)); case wtq => first | exact wt_none rfl | exact wt_some' rfl rfl rfl rfl (by first | rfl | assumption | exact dT (by omega) | exact dF (by omega))) | refine awl_nil ?_)
  refine awp_cut _ (awp_weak (by first | ((repeat' (first | exact True.intro | refine ⟨rfl, ?_⟩)); all_goals fail) | fail) (by solve | repeat' constructor) (qs_12 (g3 := g3) (p := p) (i := i) (n := p.ords.length) (L := L) (M := M) (b := decide ((M.getD i default).buyer = (p.ords.length : Int) ∨ (M.getD i default).seller = (p.ords.length : Int))) rfl hit (by omega) rfl rfl)) ?_
  rintro s h ⟨rfl, rfl⟩
  repeat (first | refine awp_seq ?_ | refine awp_block ?_ | refine then_n ?_)
  refine awp_cut _ (awp_weak (by first | ((repeat' (first | exact True.intro | refine ⟨rfl, ?_⟩)); all_goals fail) | fail) (by solve | repeat' constructor) (qs_13 (g3 := g3) (p := p) (i := i) (L := L) (M := M) (b := decide ((M.getD i default).buyer = (p.ords.length : Int) ∨ (M.getD i default).seller = (p.ords.length : Int))) hit (by omega) (by omega) hfacts.1 hfacts.2 rfl)) ?_
  rintro s h ⟨rfl, rfl⟩
  repeat (first | refine awp_region_lit rfl ?_ | refine awp_skip ?_ | refine awp_cond_f rfl (by first | rfl | assumption | exact dF (by omega)) ?_ | ((first | (show AWL _ _ _ (⟨_, .move _, _, _, _, _⟩ :: _) _ _ _; refine awl_pw ?wtq (pv_move rfl rfl) rfl rfl ?_) | (show AWL _ _ _ (⟨_, .assign _, _, _, _, _⟩ :: _) _ _ _; refine awl_pw ?wtq (pv_assign rfl rfl) rfl rfl ?_) | (show AWL _ _ _ (⟨_, .binOp .add _ _ _ _, _, _, _, _⟩ :: _) _ _ _; refine awl_pw ?wtq (pv_add rfl rfl rfl (by first | assumption | exact wr64 (by omega))) rfl rfl ?_)); case wtq => first | exact wt_none rfl | exact wt_some' rfl rfl rfl rfl (by first | rfl | assumption | exact dT (by omega) | exact dF (by omega))) | refine awl_nil ?_)
  refine rnd_n _ _ _ ?_ ⟨i + 1, hit, rfl, rfl, rfl⟩ (by first | ((repeat' (first | exact True.intro | refine ⟨rfl, ?_⟩)); all_goals fail) | fail) (by solve | repeat' constructor)
  omega
end Go.Proofs.Yteaoclpikdmkiaa
