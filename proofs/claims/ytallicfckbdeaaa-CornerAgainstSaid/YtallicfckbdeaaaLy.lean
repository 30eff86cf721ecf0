/- The law CornerAgainst (Try.func16): walk. -/
import Derived.Test.YtallicfckbdeaaaXi
import Derived.Test.YtallicfckbdeaaaKa
import Derived.Test.YtallicfckbdeaaaTc
import Derived.Test.YtallicfckbdeaaaGTy
import Derived.Test.YtallicfckbdeaaaGTs
import Derived.Test.YtallicfckbdeaaaGPa
namespace Go.Proofs.Ytallicfckbdeaaa
open Go Go.RowKit Go.Tl
set_option linter.unusedVariables false
set_option linter.unusedSimpArgs false
set_option maxRecDepth 100000
set_option maxHeartbeats 4000000
theorem contOne (cs : List ConD) : ∀ k, k < cs.length → ∀ u ∈ conL (cs.getD k default), oneA (AV.ofTr u) = true := fun k hk u hu => by
  simp only [conL, List.mem_cons, List.not_mem_nil, or_false] at hu
  rcases hu with rfl | rfl | rfl <;> rfl
theorem conRows_range (l : List ConD) : ((List.range l.length).map fun k => (conL (l.getD k default)).map AV.ofTr) = l.map conRow := by
  refine List.ext_getElem (by simp) fun k h1 h2 => ?_
  simp at h1 h2
  simp [List.getD_eq_getElem?_getD, h1, AV.ofTr, conL, conRow]
attribute [local irreducible] AWP AWL AOp PV LV AWT AWE AWC
section
variable {g2 g3 g5 g6 : Nat} {m : MktD} {c : ConD} {rest : List Ent}
theorem ly_1 {ops : Array Oper} (h : regF Try.f16 1 = some ops) :
    AWP Try.prog Try.f16.ntmps none (.region 1 ops true) (cutQ (fun s h => ∃ g5 g6, s = [(5, .v (ptrV g5)), (6, .v (ptrV g6)), (2, .v (ptrV g2)), (3, .v (ptrV g3))] ∧ h = [.cl g2 25 [intA m.ex, .t (housT false m.hou), .t (consT false m.con)], .cl g5 25 [intA m.ex, .t (housT false m.hou), .t (consT false m.con)], .cl g6 25 [intA m.ex, .t (housT false m.hou), .t (consT false m.con)], .cl g3 101 (conRow c)]))
      [(2, .v (ptrV g2)), (3, .v (ptrV g3))] [.cl g2 25 [intA m.ex, .t (housT false m.hou), .t (consT false m.con)], .cl g3 101 (conRow c)] := by
  cases h
  refine awp_tree T0 [(0, 1), (1, 1), (2, 2), (3, 2), (4, 2), (5, 3)] (.op 0 1 (.op 1 1 (.fork 2 (.op 3 2 (.op 4 2 (.op 5 3 .stop))) 3 (.op 2 2 (.op 4 2 (.op 5 3 .stop)))))) [.cl g2 _ _] rfl (by kernel_rfl) rcA ?_
  refine awt_lo rfl (wt_none rfl) (lv_cla T0 rfl rfl rfl rcA rfl) rfl rfl rfl ?_
  refine awt_lo rfl (wt_none rfl) (lv_cla T0 rfl rfl rfl rcA rfl) rfl rfl rfl ?_
  refine awt_fork ?_ ?_
  · skip
    refine awt_h (hm := []) rfl (wt_none rfl) rcA rfl (st_alloc T0 rfl rfl rfl rfl scA ?_)
    intro g5
    refine awt_h (hm := []) rfl (wt_none rfl) rcA rfl (st_alloc T0 rfl rfl rfl rfl scA ?_)
    intro g6
    refine awt_h (hm := _) rfl (wt_none rfl) ?sub rfl (st_store_o T0 rfl rfl rfl rfl rfl (by first | assumption | (simp only [cellsA]; rfl)) rfl rfl rfl rcA rcA ?_)
    case sub => exact rcA
    refine awt_s (md := fun _ => True) rfl (wt_none rfl) (st_store T0 rfl rfl rfl rfl rfl (by first | assumption | (simp only [cellsA]; rfl)) rfl rfl rfl rcA rcA trivial ?_)
    refine awe_end ?_
    exact cut_n ⟨_, _, rfl, rfl⟩ ssA rcA
  · skip
    refine awt_h (hm := []) rfl (wt_none rfl) rcA rfl (st_alloc T0 rfl rfl rfl rfl scA ?_)
    intro g6
    refine awt_h (hm := []) rfl (wt_none rfl) rcA rfl (st_alloc T0 rfl rfl rfl rfl scA ?_)
    intro g5
    refine awt_h (hm := _) rfl (wt_none rfl) ?sub rfl (st_store_o T0 rfl rfl rfl rfl rfl (by first | assumption | (simp only [cellsA]; rfl)) rfl rfl rfl rcA rcA ?_)
    case sub => exact rcA
    refine awt_s (md := fun _ => True) rfl (wt_none rfl) (st_store T0 rfl rfl rfl rfl rfl (by first | assumption | (simp only [cellsA]; rfl)) rfl rfl rfl rcA rcA trivial ?_)
    refine awe_end ?_
    exact cut_n ⟨_, _, rfl, rfl⟩ ssA rcA
theorem ly_2 (hb : (m.con.length + 2) * 24 ≤ 140737488355328) {ops : Array Oper} (h : regF Try.f16 2 = some ops) :
    AWP Try.prog Try.f16.ntmps none (.region 2 ops true) (cutQ (fun s h => ∃ a cc, s = [(2, .v (ptrV g2)), (3, .v (ptrV g3)), (5, .v (ptrV g5)), (6, .v (ptrV g6))] ∧ h = [.cl g2 25 [intA m.ex, .t (housT false m.hou), .t (consT false m.con)], .cl g5 25 [intA m.ex, .t (housT false m.hou), .v (.slice a (m.con.length + 1) cc)], .cl g6 25 [intA m.ex, .t (housT false m.hou), .t (consT false m.con)], .cl g3 101 (conRow c), .rw (.slice a (m.con.length + 1) cc) 101 3 (m.con.map conRow ++ [conRow c])]))
      [(2, .v (ptrV g2)), (3, .v (ptrV g3)), (5, .v (ptrV g5)), (6, .v (ptrV g6))] [.cl g2 25 [intA m.ex, .t (housT false m.hou), .t (consT false m.con)], .cl g5 25 [intA m.ex, .t (housT false m.hou), .t (consT false m.con)], .cl g6 25 [intA m.ex, .t (housT false m.hou), .t (consT false m.con)], .cl g3 101 (conRow c)] := by
  have k2 : (0 + m.con.length) * 24 ≤ 140737488355328 := Nat.le_trans (Nat.mul_le_mul_right 24 (by clear hb; omega)) hb
  have k4 : (0 + m.con.length + 1) * 24 ≤ 140737488355328 := Nat.le_trans (Nat.mul_le_mul_right 24 (by clear hb k2; omega)) hb
  obtain ⟨k1, k3⟩ : 0 + m.con.length ≤ maxLen ∧ 0 + m.con.length + 1 ≤ maxLen := by unfold maxLen; omega
  cases h
  refine awp_C T0 (.op 1 0 (.op 2 1 (.op 4 1 (.alt (.op 0 2 (.alt (.op 3 2 (.op 5 2 (.op 6 2 (.op 7 0 (.op 8 2 .stop))))) (.op 5 2 (.op 3 2 (.op 6 2 (.op 7 0 (.op 8 2 .stop))))))) (.op 5 2 (.op 0 2 (.op 3 2 (.op 6 2 (.op 7 0 (.op 8 2 .stop)))))))))) [.cl g2 _ _, .cl g3 _ _] (by kernel_rfl) (by kernel_rfl) (by kernel_rfl) rcA ?_
  refine awc_po rfl (wt_none rfl) (pv_fa T0 rfl rfl rfl (by simp; rfl)) rfl rfl ?_
  refine awc_lo rfl (wt_none rfl) (lv_cl1 T0 rfl rfl rfl rcA raA) rfl rfl rfl ?_
  refine awc_lo rfl (wt_none rfl) (lv_cla T0 rfl rfl rfl rcA rfl) rfl rfl rfl ?_
  refine awc_alt ?_ ?_
  · skip
    refine awc_h (hm := []) rfl (wt_none rfl) ?sub6 rfl (st_bsl T0 rfl rfl rfl rfl rfl rcA rfl rfl rfl rfl (by simp only [List.map_cons, List.map_nil, cellsA]; rfl) ?_)
    case sub6 => exact rcA
    intro g22
    refine awc_alt ?_ ?_
    · skip
      refine awc_h (hm := _) rfl (wt_none rfl) ?sub11 rfl (st_apptB_o (n := 0) T0 rfl rfl rfl rfl rfl rfl rfl rfl rcA (contOne _) rfl k1 k2 rfl ?_)
      case sub11 => exact rcA
      intro a25 c25 p25
      refine awc_h (hm := []) rfl (wt_none rfl) ?sub14 rfl (st_bsl T0 rfl rfl rfl rfl rfl rcA rfl rfl rfl rfl (by simp only [List.map_cons, List.map_nil, cellsA]; rfl) ?_)
      case sub14 => exact rcA
      intro g27
      refine awc_h (hm := _) rfl (wt_none rfl) ?sub17 rfl (st_appB_o (n := 0 + m.con.length) T0 rfl rfl rfl rfl rfl rfl rfl rfl rcA rcA rfl rfl (by simp) k3 k4 ?_)
      case sub17 => exact rcA
      intro a28 c28 p28
      refine awc_po rfl (wt_none rfl) (pv_fa T0 rfl rfl rfl (by simp; rfl)) rfl rfl ?_
      refine awc_h (hm := _) rfl (wt_none rfl) ?sub21 rfl (st_store_o T0 rfl rfl rfl rfl rfl (by first | assumption | (simp only [cellsA]; rfl)) rfl rfl rfl rcA rcA ?_)
      case sub21 => exact rcA
      refine awc_end ?_
      simp only [List.nil_append, Nat.zero_add, conRows_range]
      exact cut_n ⟨_, _, rfl, rfl⟩ ssA rcA
    refine awc_h (hm := []) rfl (wt_none rfl) ?sub26 rfl (st_bsl T0 rfl rfl rfl rfl rfl rcA rfl rfl rfl rfl (by simp only [List.map_cons, List.map_nil, cellsA]; rfl) ?_)
    case sub26 => exact rcA
    intro g27
    refine awc_h (hm := _) rfl (wt_none rfl) ?sub29 rfl (st_apptB_o (n := 0) T0 rfl rfl rfl rfl rfl rfl rfl rfl rcA (contOne _) rfl k1 k2 rfl ?_)
    case sub29 => exact rcA
    intro a25 c25 p25
    refine awc_h (hm := _) rfl (wt_none rfl) ?sub32 rfl (st_appB_o (n := 0 + m.con.length) T0 rfl rfl rfl rfl rfl rfl rfl rfl rcA rcA rfl rfl (by simp) k3 k4 ?_)
    case sub32 => exact rcA
    intro a28 c28 p28
    refine awc_po rfl (wt_none rfl) (pv_fa T0 rfl rfl rfl (by simp; rfl)) rfl rfl ?_
    refine awc_h (hm := _) rfl (wt_none rfl) ?sub36 rfl (st_store_o T0 rfl rfl rfl rfl rfl (by first | assumption | (simp only [cellsA]; rfl)) rfl rfl rfl rcA rcA ?_)
    case sub36 => exact rcA
    refine awc_end ?_
    simp only [List.nil_append, Nat.zero_add, conRows_range]
    exact cut_n ⟨_, _, rfl, rfl⟩ ssA rcA
  refine awc_h (hm := []) rfl (wt_none rfl) ?sub41 rfl (st_bsl T0 rfl rfl rfl rfl rfl rcA rfl rfl rfl rfl (by simp only [List.map_cons, List.map_nil, cellsA]; rfl) ?_)
  case sub41 => exact rcA
  intro g27
  refine awc_h (hm := []) rfl (wt_none rfl) ?sub44 rfl (st_bsl T0 rfl rfl rfl rfl rfl rcA rfl rfl rfl rfl (by simp only [List.map_cons, List.map_nil, cellsA]; rfl) ?_)
  case sub44 => exact rcA
  intro g22
  refine awc_h (hm := _) rfl (wt_none rfl) ?sub47 rfl (st_apptB_o (n := 0) T0 rfl rfl rfl rfl rfl rfl rfl rfl rcA (contOne _) rfl k1 k2 rfl ?_)
  case sub47 => exact rcA
  intro a25 c25 p25
  refine awc_h (hm := _) rfl (wt_none rfl) ?sub50 rfl (st_appB_o (n := 0 + m.con.length) T0 rfl rfl rfl rfl rfl rfl rfl rfl rcA rcA rfl rfl (by simp) k3 k4 ?_)
  case sub50 => exact rcA
  intro a28 c28 p28
  refine awc_po rfl (wt_none rfl) (pv_fa T0 rfl rfl rfl (by simp; rfl)) rfl rfl ?_
  refine awc_h (hm := _) rfl (wt_none rfl) ?sub54 rfl (st_store_o T0 rfl rfl rfl rfl rfl (by first | assumption | (simp only [cellsA]; rfl)) rfl rfl rfl rcA rcA ?_)
  case sub54 => exact rcA
  refine awc_end ?_
  simp only [List.nil_append, Nat.zero_add, conRows_range]
  exact cut_n ⟨_, _, rfl, rfl⟩ ssA rcA
theorem ly_3 {L : List ConD} (hb : (L.length + 1) * 24 ≤ 140737488355328) {ops : Array Oper} (h : regF Try.f16 3 = some ops) :
    AWP Try.prog Try.f16.ntmps none (.region 3 ops true) (cutQ (fun s h => ∃ a cc, s = [(2, .v (ptrV g2)), (3, .v (ptrV g3)), (5, .v (ptrV g5)), (6, .v (ptrV g6))] ∧ h = [.cl g2 25 [intA m.ex, .t (housT false m.hou), .t (consT false m.con)], .cl g5 25 [intA m.ex, .t (housT false m.hou), .t (consT true L)], .cl g6 25 [intA m.ex, .t (housT false m.hou), .v (.slice a (L.length + 1) cc)], .cl g3 101 (conRow c), .rw (.slice a (L.length + 1) cc) 101 3 (L.map conRow ++ [conRow ⟨c.lg, c.sh, c.n⟩])]))
      [(2, .v (ptrV g2)), (3, .v (ptrV g3)), (5, .v (ptrV g5)), (6, .v (ptrV g6))] [.cl g2 25 [intA m.ex, .t (housT false m.hou), .t (consT false m.con)], .cl g5 25 [intA m.ex, .t (housT false m.hou), .t (consT true L)], .cl g6 25 [intA m.ex, .t (housT false m.hou), .t (consT false m.con)], .cl g3 101 (conRow c)] := by
  have k2 : (0 + L.length) * 24 ≤ 140737488355328 := Nat.le_trans (Nat.mul_le_mul_right 24 (by clear hb; omega)) hb
  have k4 : (0 + L.length + 1) * 24 ≤ 140737488355328 := Nat.le_trans (Nat.mul_le_mul_right 24 (by clear hb k2; omega)) hb
  obtain ⟨k1, k3⟩ : 0 + L.length ≤ maxLen ∧ 0 + L.length + 1 ≤ maxLen := by unfold maxLen; omega
  cases h
  refine awp_C T0 (.op 1 0 (.op 2 1 (.op 4 0 (.op 5 1 (.op 6 0 (.op 7 1 (.op 8 0 (.op 9 1 (.op 10 0 (.alt (.op 0 2 (.alt (.op 3 2 (.op 11 2 (.op 12 2 (.op 13 0 (.op 14 2 .stop))))) (.op 11 2 (.op 3 2 (.op 12 2 (.op 13 0 (.op 14 2 .stop))))))) (.op 11 2 (.op 0 2 (.op 3 2 (.op 12 2 (.op 13 0 (.op 14 2 .stop)))))))))))))))) [.cl g5 _ _, .cl g3 _ _] (by kernel_rfl) (by kernel_rfl) (by kernel_rfl) rcA ?_
  refine awc_po rfl (wt_none rfl) (pv_fa T0 rfl rfl rfl (by simp; rfl)) rfl rfl ?_
  refine awc_lo rfl (wt_none rfl) (lv_cl1 T0 rfl rfl rfl rcA raA) rfl rfl rfl ?_
  refine awc_po rfl (wt_none rfl) (pv_fa T0 rfl rfl rfl (by simp; rfl)) rfl rfl ?_
  refine awc_lo rfl (wt_none rfl) (lv_cl1 T0 rfl rfl rfl rcA raA) rfl rfl rfl ?_
  refine awc_po rfl (wt_none rfl) (pv_fa T0 rfl rfl rfl (by simp; rfl)) rfl rfl ?_
  refine awc_lo rfl (wt_none rfl) (lv_cl1 T0 rfl rfl rfl rcA raA) rfl rfl rfl ?_
  refine awc_po rfl (wt_none rfl) (pv_fa T0 rfl rfl rfl (by simp; rfl)) rfl rfl ?_
  refine awc_lo rfl (wt_none rfl) (lv_cl1 T0 rfl rfl rfl rcA raA) rfl rfl rfl ?_
  refine awc_po rfl (wt_none rfl) (pv_build T0 rfl rfl rfl scA (by first | ((repeat' (first | exact BParts.nil | apply BParts.cons | rfl)); all_goals fail) | fail) (by first | ((repeat' (first | exact FillA.nil | exact Sp.done | apply FillA.cons | apply Sp.put | apply Sp.skip | (simp only [cellsA]; rfl) | rfl)); all_goals fail) | fail)) rfl rfl ?_
  refine awc_alt ?_ ?_
  · skip
    refine awc_h (hm := []) rfl (wt_none rfl) ?sub12 rfl (st_bsl T0 rfl rfl rfl rfl rfl rcA rfl rfl rfl rfl (by simp only [List.map_cons, List.map_nil, cellsA]; rfl) ?_)
    case sub12 => exact rcA
    intro g30
    refine awc_alt ?_ ?_
    · skip
      refine awc_h (hm := _) rfl (wt_none rfl) ?sub17 rfl (st_apptB_o (n := 0) T0 rfl rfl rfl rfl rfl rfl rfl rfl rcA (contOne _) rfl k1 k2 rfl ?_)
      case sub17 => exact rcA
      intro a33 c33 p33
      refine awc_h (hm := []) rfl (wt_none rfl) ?sub20 rfl (st_bsl T0 rfl rfl rfl rfl rfl rcA rfl rfl rfl rfl (by simp only [List.map_cons, List.map_nil, cellsA]; rfl) ?_)
      case sub20 => exact rcA
      intro g41
      refine awc_h (hm := _) rfl (wt_none rfl) ?sub23 rfl (st_appB_o (n := 0 + L.length) T0 rfl rfl rfl rfl rfl rfl rfl rfl rcA rcA rfl rfl (by simp) k3 k4 ?_)
      case sub23 => exact rcA
      intro a42 c42 p42
      refine awc_po rfl (wt_none rfl) (pv_fa T0 rfl rfl rfl (by simp; rfl)) rfl rfl ?_
      refine awc_h (hm := _) rfl (wt_none rfl) ?sub27 rfl (st_store_o T0 rfl rfl rfl rfl rfl (by first | assumption | (simp only [cellsA]; rfl)) rfl rfl rfl rcA rcA ?_)
      case sub27 => exact rcA
      refine awc_end ?_
      simp only [List.nil_append, Nat.zero_add, conRows_range]
      exact cut_n ⟨_, _, rfl, rfl⟩ ssA rcA
    refine awc_h (hm := []) rfl (wt_none rfl) ?sub32 rfl (st_bsl T0 rfl rfl rfl rfl rfl rcA rfl rfl rfl rfl (by simp only [List.map_cons, List.map_nil, cellsA]; rfl) ?_)
    case sub32 => exact rcA
    intro g41
    refine awc_h (hm := _) rfl (wt_none rfl) ?sub35 rfl (st_apptB_o (n := 0) T0 rfl rfl rfl rfl rfl rfl rfl rfl rcA (contOne _) rfl k1 k2 rfl ?_)
    case sub35 => exact rcA
    intro a33 c33 p33
    refine awc_h (hm := _) rfl (wt_none rfl) ?sub38 rfl (st_appB_o (n := 0 + L.length) T0 rfl rfl rfl rfl rfl rfl rfl rfl rcA rcA rfl rfl (by simp) k3 k4 ?_)
    case sub38 => exact rcA
    intro a42 c42 p42
    refine awc_po rfl (wt_none rfl) (pv_fa T0 rfl rfl rfl (by simp; rfl)) rfl rfl ?_
    refine awc_h (hm := _) rfl (wt_none rfl) ?sub42 rfl (st_store_o T0 rfl rfl rfl rfl rfl (by first | assumption | (simp only [cellsA]; rfl)) rfl rfl rfl rcA rcA ?_)
    case sub42 => exact rcA
    refine awc_end ?_
    simp only [List.nil_append, Nat.zero_add, conRows_range]
    exact cut_n ⟨_, _, rfl, rfl⟩ ssA rcA
  refine awc_h (hm := []) rfl (wt_none rfl) ?sub47 rfl (st_bsl T0 rfl rfl rfl rfl rfl rcA rfl rfl rfl rfl (by simp only [List.map_cons, List.map_nil, cellsA]; rfl) ?_)
  case sub47 => exact rcA
  intro g41
  refine awc_h (hm := []) rfl (wt_none rfl) ?sub50 rfl (st_bsl T0 rfl rfl rfl rfl rfl rcA rfl rfl rfl rfl (by simp only [List.map_cons, List.map_nil, cellsA]; rfl) ?_)
  case sub50 => exact rcA
  intro g30
  refine awc_h (hm := _) rfl (wt_none rfl) ?sub53 rfl (st_apptB_o (n := 0) T0 rfl rfl rfl rfl rfl rfl rfl rfl rcA (contOne _) rfl k1 k2 rfl ?_)
  case sub53 => exact rcA
  intro a33 c33 p33
  refine awc_h (hm := _) rfl (wt_none rfl) ?sub56 rfl (st_appB_o (n := 0 + L.length) T0 rfl rfl rfl rfl rfl rfl rfl rfl rcA rcA rfl rfl (by simp) k3 k4 ?_)
  case sub56 => exact rcA
  intro a42 c42 p42
  refine awc_po rfl (wt_none rfl) (pv_fa T0 rfl rfl rfl (by simp; rfl)) rfl rfl ?_
  refine awc_h (hm := _) rfl (wt_none rfl) ?sub60 rfl (st_store_o T0 rfl rfl rfl rfl rfl (by first | assumption | (simp only [cellsA]; rfl)) rfl rfl rfl rcA rcA ?_)
  case sub60 => exact rcA
  refine awc_end ?_
  simp only [List.nil_append, Nat.zero_add, conRows_range]
  exact cut_n ⟨_, _, rfl, rfl⟩ ssA rcA
end
theorem CornerAgainst_p (m : MktD) (c : ConD) (hl : m.hou.length ≤ maxLen) (hb : (m.con.length + 2) * 24 ≤ 140737488355328) : PCall Try.prog 16 [mktA false false m, conA c] (fun r => r = boolA true) := by
  have hc9 : m.con.length + 2 ≤ 9223372036854775807 := by omega
  have hl9 : m.hou.length ≤ 9223372036854775807 := hl
  have hr := ready_p m hl9 (by omega)
  have hr2 := ready_q false true (twoM m c) hl9 (by show (m.con ++ [c] ++ [(⟨c.lg, c.sh, c.n⟩ : ConD)]).length ≤ 9223372036854775807; simp; omega)
  clear hl
  refine acall_of_awp T0 Try.func16 rfl rfl rfl ?_
  repeat (first | refine awp_seq ?_ | refine awp_region_lit rfl ?_)
  refine awl_hw wtA (st_box rfl rfl raA (by first | assumption | (simp only [cellsA]; rfl)) rfl rfl ?_)
  intro g2
  skip
  refine awl_hw wtA (st_box rfl rfl raA (by first | assumption | (simp only [cellsA]; rfl)) rfl rfl ?_)
  intro g3
  repeat (first | refine awp_seq ?_ | ((first | (show AWL _ _ _ (⟨_, .assign _, _, _, _, _⟩ :: _) _ _ _; refine awl_pw ?wtq (pv_assign rfl rfl) rfl rfl ?_)); case wtq => exact wtA) | refine awl_nil ?_)
  refine awp_cut _ (awp_weak ssA rcA (ly_1 (g2 := g2) (g3 := g3) (m := m) (c := c) rfl)) ?_
  rintro s h ⟨g5, g6, rfl, rfl⟩
  repeat (first | refine awp_seq ?_ | refine awp_block ?_ | refine then_n ?_)
  refine awp_cut _ (awp_weak ssA rcA (ly_2 (g2 := g2) (g3 := g3) (g5 := g5) (g6 := g6) (m := m) (c := c) hb rfl)) ?_
  rintro s h ⟨a, cc, rfl, rfl⟩
  have hL1 : (m.con ++ [c]).length = m.con.length + 1 := by simp
  have hL2 : (m.con ++ [c] ++ [(⟨c.lg, c.sh, c.n⟩ : ConD)]).length = m.con.length + 1 + 1 := by simp
  have htX := rows_tree (d := default) (m.con ++ [c]) conRow conL (fun _ => rfl)
  have htY := rows_tree (d := default) (m.con ++ [c] ++ [(⟨c.lg, c.sh, c.n⟩ : ConD)]) conRow conL (fun _ => rfl)
  rw [hL1] at htX
  rw [hL2] at htY
  rw [show m.con.map conRow ++ [conRow c] = (m.con ++ [c]).map conRow from by rw [List.map_append]; rfl]
  refine awp_ghost (ghost_freeze_cell (g := g5) (j := 2) (v := .slice a (m.con.length + 1) cc) (E := 101) (sz := 3) (n := m.con.length + 1) (rows := (m.con ++ [c]).map conRow) (fun q => conL ((m.con ++ [c]).getD q default)) rcA rcA rfl rfl (by rw [List.length_map, hL1]) htX) ?_
  rw [show Tr.sl true 3 (m.con.length + 1) (fun q => conL ((m.con ++ [c]).getD q default)) = consT true (m.con ++ [c]) from by rw [← hL1]; rfl]
  repeat (first | refine awp_seq ?_ | refine awp_block ?_ | refine then_n ?_)
  refine awp_cut _ (awp_weak ssA rcA (ly_3 (g2 := g2) (g3 := g3) (g5 := g5) (g6 := g6) (m := m) (c := c) (L := m.con ++ [c]) (by rw [hL1]; omega) rfl)) ?_
  rintro s h ⟨a2, cc2, rfl, rfl⟩
  rw [hL1, show (m.con ++ [c]).map conRow ++ [conRow ⟨c.lg, c.sh, c.n⟩] = (m.con ++ [c] ++ [(⟨c.lg, c.sh, c.n⟩ : ConD)]).map conRow from by simp]
  refine awp_ghost (ghost_freeze_cell (g := g6) (j := 2) (v := .slice a2 (m.con.length + 1 + 1) cc2) (E := 101) (sz := 3) (n := m.con.length + 1 + 1) (rows := (m.con ++ [c] ++ [(⟨c.lg, c.sh, c.n⟩ : ConD)]).map conRow) (fun q => conL ((m.con ++ [c] ++ [(⟨c.lg, c.sh, c.n⟩ : ConD)]).getD q default)) rcA rcA rfl rfl (by rw [List.length_map, hL2]) htY) ?_
  rw [show Tr.sl true 3 (m.con.length + 1 + 1) (fun q => conL ((m.con ++ [c] ++ [(⟨c.lg, c.sh, c.n⟩ : ConD)]).getD q default)) = consT true (m.con ++ [c] ++ [(⟨c.lg, c.sh, c.n⟩ : ConD)]) from by rw [← hL2]; rfl]
  clear htX htY
  by_cases hf : faultN m = 0
  case neg =>
    rw [decide_eq_false hf] at hr
    repeat (first | refine awp_seq ?_ | refine awp_region_lit rfl ?_ | ((first | (show AWL _ _ _ (⟨_, .load _ _, _, _, _, _⟩ :: _) _ _ _; refine awl_lw ?wtq (lv_cla T0 rfl rfl rfl rcA rfl) rfl rfl rfl ?_)); case wtq => exact wtA))
    refine awl_hw wtA (st_call T0 (hr) rfl rfl rfl rfl (by first | exact callee_lit | exact callee_v | exact callee_fn | assumption) rcA raA rfl ?_)
    rintro _ rfl
    repeat (first | refine awp_seq ?_ | refine awp_region_lit rfl ?_ | refine then_n ?_ | refine awp_cond_t rfl (by first | rfl | assumption | exact dT (by omega)) ?_ | ((first | (show AWL _ _ _ (⟨_, .move _, _, _, _, _⟩ :: _) _ _ _; refine awl_pw ?wtq (pv_move rfl rfl) rfl rfl ?_) | (show AWL _ _ _ (⟨_, .load _ _, _, _, _, _⟩ :: _) _ _ _; refine awl_lw ?wtq (lv_cla T0 rfl rfl rfl rcA rfl) rfl rfl rfl ?_) | (show AWL _ _ _ (⟨_, .unOp .not _ _, _, _, _, _⟩ :: _) _ _ _; refine awl_pw ?wtq (pv_not rfl rfl) rfl rfl ?_) | (show AWL _ _ _ (⟨_, .pick _ _ _, _, _, _, _⟩ :: _) _ _ _; refine awl_pw ?wtq (pv_pick_t rfl rfl tfA rfl) rfl rfl ?_)); case wtq => exact wtA) | refine awl_sk (wf_some rfl rfl rfl rfl tfA) rfl rfl ?_ | refine awl_nil ?_)
    refine awl_hw wtA (st_call T0 (awake_p) rfl rfl rfl rfl (by first | exact callee_lit | exact callee_v | exact callee_fn | assumption) rcA raA rfl ?_)
    rintro _ rfl
    repeat (first | refine awp_ret ?_ | refine then_r ?_ | ((first | (show AWL _ _ _ (⟨_, .assign _, _, _, _, _⟩ :: _) _ _ _; refine awl_pw ?wtq (pv_assign rfl rfl) rfl rfl ?_)); case wtq => exact wtA) | refine awl_nil ?_)
    exact body_p (.cons rfl .nil) rfl
  rw [decide_eq_true hf] at hr
  by_cases hf2 : faultN (twoM m c) = 0
  case neg =>
    rw [decide_eq_false hf2] at hr2
    repeat (first | refine awp_seq ?_ | refine awp_region_lit rfl ?_ | ((first | (show AWL _ _ _ (⟨_, .load _ _, _, _, _, _⟩ :: _) _ _ _; refine awl_lw ?wtq (lv_cla T0 rfl rfl rfl rcA rfl) rfl rfl rfl ?_)); case wtq => exact wtA))
    refine awl_hw wtA (st_call T0 (hr) rfl rfl rfl rfl (by first | exact callee_lit | exact callee_v | exact callee_fn | assumption) rcA raA rfl ?_)
    rintro _ rfl
    repeat (first | ((first | (show AWL _ _ _ (⟨_, .move _, _, _, _, _⟩ :: _) _ _ _; refine awl_pw ?wtq (pv_move rfl rfl) rfl rfl ?_) | (show AWL _ _ _ (⟨_, .load _ _, _, _, _, _⟩ :: _) _ _ _; refine awl_lw ?wtq (lv_cla T0 rfl rfl rfl rcA rfl) rfl rfl rfl ?_) | (show AWL _ _ _ (⟨_, .unOp .not _ _, _, _, _, _⟩ :: _) _ _ _; refine awl_pw ?wtq (pv_not rfl rfl) rfl rfl ?_)); case wtq => exact wtA))
    refine awl_hw wtA (st_call T0 (hr2) rfl rfl rfl rfl (by first | exact callee_lit | exact callee_v | exact callee_fn | assumption) rcA raA rfl ?_)
    rintro _ rfl
    repeat (first | refine awp_seq ?_ | refine awp_region_lit rfl ?_ | refine then_n ?_ | refine awp_cond_t rfl (by first | rfl | assumption | exact dT (by omega)) ?_ | ((first | (show AWL _ _ _ (⟨_, .move _, _, _, _, _⟩ :: _) _ _ _; refine awl_pw ?wtq (pv_move rfl rfl) rfl rfl ?_) | (show AWL _ _ _ (⟨_, .load _ _, _, _, _, _⟩ :: _) _ _ _; refine awl_lw ?wtq (lv_cla T0 rfl rfl rfl rcA rfl) rfl rfl rfl ?_) | (show AWL _ _ _ (⟨_, .unOp .not _ _, _, _, _, _⟩ :: _) _ _ _; refine awl_pw ?wtq (pv_not rfl rfl) rfl rfl ?_) | (show AWL _ _ _ (⟨_, .pick _ _ _, _, _, _, _⟩ :: _) _ _ _; refine awl_pw ?wtq (pv_pick_t rfl rfl tfA rfl) rfl rfl ?_) | (show AWL _ _ _ (⟨_, .pick _ _ _, _, _, _, _⟩ :: _) _ _ _; refine awl_pw ?wtq (pv_pick_f rfl rfl tfA rfl) rfl rfl ?_)); case wtq => exact wtA) | refine awl_sk (wf_some rfl rfl rfl rfl tfA) rfl rfl ?_ | refine awl_nil ?_)
    refine awl_hw wtA (st_call T0 (awake_p) rfl rfl rfl rfl (by first | exact callee_lit | exact callee_v | exact callee_fn | assumption) rcA raA rfl ?_)
    rintro _ rfl
    repeat (first | refine awp_ret ?_ | refine then_r ?_ | ((first | (show AWL _ _ _ (⟨_, .assign _, _, _, _, _⟩ :: _) _ _ _; refine awl_pw ?wtq (pv_assign rfl rfl) rfl rfl ?_)); case wtq => exact wtA) | refine awl_nil ?_)
    exact body_p (.cons rfl .nil) rfl
  rw [decide_eq_true hf2] at hr2
  have hv := vmkt hf
  have hlen := hv.len
  have hpos := hv.pos
  have hclen := hv.clen
  have hH := refhas_p false false m hv
  cases e : possB m
  · rw [e] at hH
    repeat (first | refine awp_seq ?_ | refine awp_region_lit rfl ?_ | ((first | (show AWL _ _ _ (⟨_, .load _ _, _, _, _, _⟩ :: _) _ _ _; refine awl_lw ?wtq (lv_cla T0 rfl rfl rfl rcA rfl) rfl rfl rfl ?_)); case wtq => exact wtA))
    refine awl_hw wtA (st_call T0 (hr) rfl rfl rfl rfl (by first | exact callee_lit | exact callee_v | exact callee_fn | assumption) rcA raA rfl ?_)
    rintro _ rfl
    repeat (first | ((first | (show AWL _ _ _ (⟨_, .move _, _, _, _, _⟩ :: _) _ _ _; refine awl_pw ?wtq (pv_move rfl rfl) rfl rfl ?_) | (show AWL _ _ _ (⟨_, .load _ _, _, _, _, _⟩ :: _) _ _ _; refine awl_lw ?wtq (lv_cla T0 rfl rfl rfl rcA rfl) rfl rfl rfl ?_) | (show AWL _ _ _ (⟨_, .unOp .not _ _, _, _, _, _⟩ :: _) _ _ _; refine awl_pw ?wtq (pv_not rfl rfl) rfl rfl ?_)); case wtq => exact wtA))
    refine awl_hw wtA (st_call T0 (hr2) rfl rfl rfl rfl (by first | exact callee_lit | exact callee_v | exact callee_fn | assumption) rcA raA rfl ?_)
    rintro _ rfl
    repeat (first | ((first | (show AWL _ _ _ (⟨_, .move _, _, _, _, _⟩ :: _) _ _ _; refine awl_pw ?wtq (pv_move rfl rfl) rfl rfl ?_) | (show AWL _ _ _ (⟨_, .load _ _, _, _, _, _⟩ :: _) _ _ _; refine awl_lw ?wtq (lv_cla T0 rfl rfl rfl rcA rfl) rfl rfl rfl ?_) | (show AWL _ _ _ (⟨_, .unOp .not _ _, _, _, _, _⟩ :: _) _ _ _; refine awl_pw ?wtq (pv_not rfl rfl) rfl rfl ?_) | (show AWL _ _ _ (⟨_, .pick _ _ _, _, _, _, _⟩ :: _) _ _ _; refine awl_pw ?wtq (pv_pick_f rfl rfl tfA rfl) rfl rfl ?_)); case wtq => exact wtA))
    refine awl_hw wtA (st_call T0 (hH) rfl rfl rfl rfl (by first | exact callee_lit | exact callee_v | exact callee_fn | assumption) rcA raA rfl ?_)
    rintro _ rfl
    repeat (first | refine awp_seq ?_ | refine awp_region_lit rfl ?_ | refine then_n ?_ | refine awp_cond_t rfl (by first | rfl | assumption | exact dT (by omega)) ?_ | ((first | (show AWL _ _ _ (⟨_, .unOp .not _ _, _, _, _, _⟩ :: _) _ _ _; refine awl_pw ?wtq (pv_not rfl rfl) rfl rfl ?_) | (show AWL _ _ _ (⟨_, .pick _ _ _, _, _, _, _⟩ :: _) _ _ _; refine awl_pw ?wtq (pv_pick_f rfl rfl tfA rfl) rfl rfl ?_)); case wtq => exact wtA) | refine awl_nil ?_)
    refine awl_hw wtA (st_call T0 (awake_p) rfl rfl rfl rfl (by first | exact callee_lit | exact callee_v | exact callee_fn | assumption) rcA raA rfl ?_)
    rintro _ rfl
    repeat (first | refine awp_ret ?_ | refine then_r ?_ | ((first | (show AWL _ _ _ (⟨_, .assign _, _, _, _, _⟩ :: _) _ _ _; refine awl_pw ?wtq (pv_assign rfl rfl) rfl rfl ?_)); case wtq => exact wtA) | refine awl_nil ?_)
    exact body_p (.cons rfl .nil) rfl
  rw [e] at hH
  have hk := two_ok hf2
  have hk1 := hk.len
  have hks := hk.sh
  have hkl := hk.lg
  have hf1 := one_fault hf hf2
  have hpx : possB (oneM m c) = true := e
  have hpy : possB (twoM m c) = true := e
  have hby : lowN (twoM m c) = lowN m ∧ highN (twoM m c) = highN m := by
    have := two_bnd m c
    rw [bnd_eq (poss_ne hv e), bnd_eq (poss_ne (vmkt hf2) hpy)] at this
    exact ⟨(Prod.mk.inj this).1, (Prod.mk.inj this).2⟩
  have hbx := one_bnd hf hf2 e
  have hE1 := Essential_p true true m (by omega) (by omega)
  have hE2 := Essential_p true true (twoM m c) (show m.hou.length ≤ 1000 by omega) (show (m.con ++ [c] ++ [(⟨c.lg, c.sh, c.n⟩ : ConD)]).length ≤ 1000 by omega)
  have hEr1 : essR m = (essL m Prod.fst m.hou.length, essL m Prod.snd m.hou.length, 0) := by unfold essR; rw [if_neg (fun c => c (by rw [asked_yes hf e]))]
  have hEr2 : essR (twoM m c) = (essL m Prod.fst m.hou.length, essL m Prod.snd m.hou.length, 0) := by
    unfold essR
    rw [if_neg (fun h => h (by rw [asked_yes hf2 hpy])), two_ess, two_ess]
  rw [hEr1] at hE1
  rw [hEr2] at hE2
  have hEl := ess_len m Prod.fst m.hou.length
  have hEl2 := ess_len m Prod.snd m.hou.length
  have hM := market_p m (by omega) (by omega)
  have hMx := market_q false true (oneM m c) (show m.hou.length ≤ 1000 by omega) (show (m.con ++ [c]).length ≤ 1000 by omega)
  have hMy := market_q false true (twoM m c) (show m.hou.length ≤ 1000 by omega) (show (m.con ++ [c] ++ [(⟨c.lg, c.sh, c.n⟩ : ConD)]).length ≤ 1000 by omega)
  have hS := Shortage_p true true m (by omega) (by omega)
  have hSx := Shortage_p true true (oneM m c) (show m.hou.length ≤ 1000 by omega) (show (m.con ++ [c]).length ≤ 1000 by omega)
  have hSy := Shortage_p true true (twoM m c) (show m.hou.length ≤ 1000 by omega) (show (m.con ++ [c] ++ [(⟨c.lg, c.sh, c.n⟩ : ConD)]).length ≤ 1000 by omega)
  rw [asked_yes hf e] at hS
  rw [asked_yes hf1 hpx] at hSx
  rw [asked_yes hf2 hpy, hby.1, hby.2] at hSy
  generalize essL m Prod.fst m.hou.length = A at *
  generalize essL m Prod.snd m.hou.length = B at *
  have hq1 := same_q (cp := true) (cp' := true) (a := A) (c := A) (r := true) (by omega) (by omega) (decide_eq_true rfl)
  have hq2 := same_q (cp := true) (cp' := true) (a := B) (c := B) (r := true) (by omega) (by omega) (decide_eq_true rfl)
  generalize lowN (oneM m c) = Lx at *
  generalize highN (oneM m c) = Hx at *
  clear hby
  generalize lowN m = L at *
  generalize highN m = H at *
  replace hE1 : PCall Try.prog 34 [mktA true true m] (fun r => r = .tup [.t (intsT true A), .t (intsT true B), intA 0]) := hE1
  replace hE2 : PCall Try.prog 34 [mktA true true (twoM m c)] (fun r => r = .tup [.t (intsT true A), .t (intsT true B), intA 0]) := hE2
  replace hS : PCall Try.prog 29 [mktA true true m] (fun r => r = .tup [.ag [intA L, intA H], intA 0]) := hS
  replace hSx : PCall Try.prog 29 [mktA true true (oneM m c)] (fun r => r = .tup [.ag [intA Lx, intA Hx], intA 0]) := hSx
  replace hSy : PCall Try.prog 29 [mktA true true (twoM m c)] (fun r => r = .tup [.ag [intA L, intA H], intA 0]) := hSy
  have e1 : decide (((L, H) : Int × Int) = (L, H)) = true := decide_eq_true rfl
  obtain ⟨i, hi⟩ : ∃ i, c.sh.toNat = i := ⟨_, rfl⟩
  obtain ⟨j, hj⟩ : ∃ j, c.lg.toNat = j := ⟨_, rfl⟩
  rw [hi, hj] at hbx
  have hcr : conRow c = [intA i, intA j, intA c.n] := by
    unfold conRow
    rw [show c.sh = (i : Int) by omega, show c.lg = (j : Int) by omega]
  rw [hcr]
  repeat (first | refine awp_seq ?_ | refine awp_region_lit rfl ?_ | ((first | (show AWL _ _ _ (⟨_, .load _ _, _, _, _, _⟩ :: _) _ _ _; refine awl_lw ?wtq (lv_cla T0 rfl rfl rfl rcA rfl) rfl rfl rfl ?_)); case wtq => exact wtA))
  refine awl_hw wtA (st_call T0 (hr) rfl rfl rfl rfl (by first | exact callee_lit | exact callee_v | exact callee_fn | assumption) rcA raA rfl ?_)
  rintro _ rfl
  repeat (first | ((first | (show AWL _ _ _ (⟨_, .move _, _, _, _, _⟩ :: _) _ _ _; refine awl_pw ?wtq (pv_move rfl rfl) rfl rfl ?_) | (show AWL _ _ _ (⟨_, .load _ _, _, _, _, _⟩ :: _) _ _ _; refine awl_lw ?wtq (lv_cla T0 rfl rfl rfl rcA rfl) rfl rfl rfl ?_) | (show AWL _ _ _ (⟨_, .unOp .not _ _, _, _, _, _⟩ :: _) _ _ _; refine awl_pw ?wtq (pv_not rfl rfl) rfl rfl ?_)); case wtq => exact wtA))
  refine awl_hw wtA (st_call T0 (hr2) rfl rfl rfl rfl (by first | exact callee_lit | exact callee_v | exact callee_fn | assumption) rcA raA rfl ?_)
  rintro _ rfl
  repeat (first | ((first | (show AWL _ _ _ (⟨_, .move _, _, _, _, _⟩ :: _) _ _ _; refine awl_pw ?wtq (pv_move rfl rfl) rfl rfl ?_) | (show AWL _ _ _ (⟨_, .load _ _, _, _, _, _⟩ :: _) _ _ _; refine awl_lw ?wtq (lv_cla T0 rfl rfl rfl rcA rfl) rfl rfl rfl ?_) | (show AWL _ _ _ (⟨_, .unOp .not _ _, _, _, _, _⟩ :: _) _ _ _; refine awl_pw ?wtq (pv_not rfl rfl) rfl rfl ?_) | (show AWL _ _ _ (⟨_, .pick _ _ _, _, _, _, _⟩ :: _) _ _ _; refine awl_pw ?wtq (pv_pick_f rfl rfl tfA rfl) rfl rfl ?_)); case wtq => exact wtA))
  refine awl_hw wtA (st_call T0 (hH) rfl rfl rfl rfl (by first | exact callee_lit | exact callee_v | exact callee_fn | assumption) rcA raA rfl ?_)
  rintro _ rfl
  repeat (first | refine awp_seq ?_ | refine awp_region_lit rfl ?_ | refine awp_skip ?_ | refine then_n ?_ | refine awp_cond_f rfl (by first | rfl | assumption | exact dF (by omega)) ?_ | ((first | (show AWL _ _ _ (⟨_, .load _ _, _, _, _, _⟩ :: _) _ _ _; refine awl_lw ?wtq (lv_cla T0 rfl rfl rfl rcA rfl) rfl rfl rfl ?_) | (show AWL _ _ _ (⟨_, .unOp .not _ _, _, _, _, _⟩ :: _) _ _ _; refine awl_pw ?wtq (pv_not rfl rfl) rfl rfl ?_) | (show AWL _ _ _ (⟨_, .pick _ _ _, _, _, _, _⟩ :: _) _ _ _; refine awl_pw ?wtq (pv_pick_f rfl rfl tfA rfl) rfl rfl ?_)); case wtq => exact wtA) | refine awl_nil ?_)
  refine awl_hw wtA (st_call T0 (hM) rfl rfl rfl rfl (by first | exact callee_lit | exact callee_v | exact callee_fn | assumption) rcA raA rfl ?_)
  rintro _ rfl
  skip
  refine awl_hw wtA (st_call T0 (hS) rfl rfl rfl rfl (by first | exact callee_lit | exact callee_v | exact callee_fn | assumption) rcA raA rfl ?_)
  rintro _ rfl
  repeat (first | ((first | (show AWL _ _ _ (⟨_, .move _, _, _, _, _⟩ :: _) _ _ _; refine awl_pw ?wtq (pv_move rfl rfl) rfl rfl ?_) | (show AWL _ _ _ (⟨_, .extract _ _, _, _, _, _⟩ :: _) _ _ _; refine awl_pw ?wtq (pv_extract rfl rfl rfl) rfl rfl ?_)); case wtq => exact wtA))
  refine awl_hw wtA (st_alloc T0 rfl rfl rfl rfl scA ?_)
  intro g7
  repeat (first | refine awp_seq ?_ | refine awp_region_lit rfl ?_ | ((first | (show AWL _ _ _ (⟨_, .assign _, _, _, _, _⟩ :: _) _ _ _; refine awl_pw ?wtq (pv_assign rfl rfl) rfl rfl ?_) | (show AWL _ _ _ (⟨_, .load _ _, _, _, _, _⟩ :: _) _ _ _; refine awl_lw ?wtq (lv_cla T0 rfl rfl rfl rcA rfl) rfl rfl rfl ?_)); case wtq => exact wtA) | (show AWL _ _ _ (⟨_, .store _ _ _, _, _, _, _⟩ :: _) _ _ _; refine awl_hw wtA (st_store T0 rfl rfl rfl rfl rfl (by first | assumption | (simp only [cellsA]; rfl)) rfl rfl rfl rcA rcA trivial ?_)) | refine awl_nil ?_)
  refine awl_hw wtA (st_call T0 (hMx) rfl rfl rfl rfl (by first | exact callee_lit | exact callee_v | exact callee_fn | assumption) rcA raA rfl ?_)
  rintro _ rfl
  skip
  refine awl_hw wtA (st_call T0 (hSx) rfl rfl rfl rfl (by first | exact callee_lit | exact callee_v | exact callee_fn | assumption) rcA raA rfl ?_)
  rintro _ rfl
  repeat (first | ((first | (show AWL _ _ _ (⟨_, .move _, _, _, _, _⟩ :: _) _ _ _; refine awl_pw ?wtq (pv_move rfl rfl) rfl rfl ?_) | (show AWL _ _ _ (⟨_, .extract _ _, _, _, _, _⟩ :: _) _ _ _; refine awl_pw ?wtq (pv_extract rfl rfl rfl) rfl rfl ?_)); case wtq => exact wtA))
  refine awl_hw wtA (st_alloc T0 rfl rfl rfl rfl scA ?_)
  intro g9
  repeat (first | refine awp_seq ?_ | refine awp_region_lit rfl ?_ | ((first | (show AWL _ _ _ (⟨_, .assign _, _, _, _, _⟩ :: _) _ _ _; refine awl_pw ?wtq (pv_assign rfl rfl) rfl rfl ?_) | (show AWL _ _ _ (⟨_, .load _ _, _, _, _, _⟩ :: _) _ _ _; refine awl_lw ?wtq (lv_cla T0 rfl rfl rfl rcA rfl) rfl rfl rfl ?_)); case wtq => exact wtA) | (show AWL _ _ _ (⟨_, .store _ _ _, _, _, _, _⟩ :: _) _ _ _; refine awl_hw wtA (st_store T0 rfl rfl rfl rfl rfl (by first | assumption | (simp only [cellsA]; rfl)) rfl rfl rfl rcA rcA trivial ?_)) | refine awl_nil ?_)
  refine awl_hw wtA (st_call T0 (hMy) rfl rfl rfl rfl (by first | exact callee_lit | exact callee_v | exact callee_fn | assumption) rcA raA rfl ?_)
  rintro _ rfl
  skip
  refine awl_hw wtA (st_call T0 (hSy) rfl rfl rfl rfl (by first | exact callee_lit | exact callee_v | exact callee_fn | assumption) rcA raA rfl ?_)
  rintro _ rfl
  repeat (first | ((first | (show AWL _ _ _ (⟨_, .move _, _, _, _, _⟩ :: _) _ _ _; refine awl_pw ?wtq (pv_move rfl rfl) rfl rfl ?_) | (show AWL _ _ _ (⟨_, .extract _ _, _, _, _, _⟩ :: _) _ _ _; refine awl_pw ?wtq (pv_extract rfl rfl rfl) rfl rfl ?_)); case wtq => exact wtA))
  refine awl_hw wtA (st_alloc T0 rfl rfl rfl rfl scA ?_)
  intro g11
  repeat (first | refine awp_seq ?_ | refine awp_region_lit rfl ?_ | ((first | (show AWL _ _ _ (⟨_, .assign _, _, _, _, _⟩ :: _) _ _ _; refine awl_pw ?wtq (pv_assign rfl rfl) rfl rfl ?_) | (show AWL _ _ _ (⟨_, .load _ _, _, _, _, _⟩ :: _) _ _ _; refine awl_lw ?wtq (lv_cla T0 rfl rfl rfl rcA rfl) rfl rfl rfl ?_)); case wtq => exact wtA) | (show AWL _ _ _ (⟨_, .store _ _ _, _, _, _, _⟩ :: _) _ _ _; refine awl_hw wtA (st_store T0 rfl rfl rfl rfl rfl (by first | assumption | (simp only [cellsA]; rfl)) rfl rfl rfl rcA rcA trivial ?_)) | refine awl_nil ?_)
  refine awl_hw wtA (st_call T0 (hM) rfl rfl rfl rfl (by first | exact callee_lit | exact callee_v | exact callee_fn | assumption) rcA raA rfl ?_)
  rintro _ rfl
  skip
  refine awl_hw wtA (st_call T0 (hE1) rfl rfl rfl rfl (by first | exact callee_lit | exact callee_v | exact callee_fn | assumption) rcA raA rfl ?_)
  rintro _ rfl
  repeat (first | refine awp_seq ?_ | refine awp_region_lit rfl ?_ | ((first | (show AWL _ _ _ (⟨_, .move _, _, _, _, _⟩ :: _) _ _ _; refine awl_pw ?wtq (pv_move rfl rfl) rfl rfl ?_) | (show AWL _ _ _ (⟨_, .assign _, _, _, _, _⟩ :: _) _ _ _; refine awl_pw ?wtq (pv_assign rfl rfl) rfl rfl ?_) | (show AWL _ _ _ (⟨_, .load _ _, _, _, _, _⟩ :: _) _ _ _; refine awl_lw ?wtq (lv_cla T0 rfl rfl rfl rcA rfl) rfl rfl rfl ?_) | (show AWL _ _ _ (⟨_, .extract _ _, _, _, _, _⟩ :: _) _ _ _; refine awl_pw ?wtq (pv_extract rfl rfl rfl) rfl rfl ?_)); case wtq => exact wtA) | refine awl_nil ?_)
  refine awl_hw wtA (st_call T0 (hMy) rfl rfl rfl rfl (by first | exact callee_lit | exact callee_v | exact callee_fn | assumption) rcA raA rfl ?_)
  rintro _ rfl
  skip
  refine awl_hw wtA (st_call T0 (hE2) rfl rfl rfl rfl (by first | exact callee_lit | exact callee_v | exact callee_fn | assumption) rcA raA rfl ?_)
  rintro _ rfl
  repeat (first | refine awp_seq ?_ | refine awp_region_lit rfl ?_ | ((first | (show AWL _ _ _ (⟨_, .move _, _, _, _, _⟩ :: _) _ _ _; refine awl_pw ?wtq (pv_move rfl rfl) rfl rfl ?_) | (show AWL _ _ _ (⟨_, .assign _, _, _, _, _⟩ :: _) _ _ _; refine awl_pw ?wtq (pv_assign rfl rfl) rfl rfl ?_) | (show AWL _ _ _ (⟨_, .load _ _, _, _, _, _⟩ :: _) _ _ _; refine awl_lw ?wtq (lv_cl1 T0 rfl rfl rfl rcA raA) rfl rfl rfl ?_) | (show AWL _ _ _ (⟨_, .load _ _, _, _, _, _⟩ :: _) _ _ _; refine awl_lw ?wtq (lv_elt_sc T0 rfl rfl rfl rfl) rfl rfl rfl ?_) | (show AWL _ _ _ (⟨_, .fieldAddr _ _ _, _, _, _, _⟩ :: _) _ _ _; refine awl_pw ?wtq (pv_fa T0 rfl rfl rfl (by simp; rfl)) rfl rfl ?_) | (show AWL _ _ _ (⟨_, .fieldAddr _ _ _, _, _, _, _⟩ :: _) _ _ _; refine awl_pw ?wtq (pv_fa_elt T0 rfl rfl rfl (by simp; rfl)) rfl rfl ?_) | (show AWL _ _ _ (⟨_, .indexAddr _ _ _, _, _, _, _⟩ :: _) _ _ _; refine awl_pw ?wtq (pv_ix_t T0 rfl rfl rfl rfl (by omega) ixA) rfl rfl ?_) | (show AWL _ _ _ (⟨_, .extract _ _, _, _, _, _⟩ :: _) _ _ _; refine awl_pw ?wtq (pv_extract rfl rfl rfl) rfl rfl ?_)); case wtq => exact wtA) | refine awl_nil ?_)
  cases s1 : (m.hou.getD i default).sells
  · repeat (first | refine awp_seq ?_ | refine awp_region_lit rfl ?_ | ((first | (show AWL _ _ _ (⟨_, .move _, _, _, _, _⟩ :: _) _ _ _; refine awl_pw ?wtq (pv_move rfl rfl) rfl rfl ?_) | (show AWL _ _ _ (⟨_, .assign _, _, _, _, _⟩ :: _) _ _ _; refine awl_pw ?wtq (pv_assign rfl rfl) rfl rfl ?_) | (show AWL _ _ _ (⟨_, .load _ _, _, _, _, _⟩ :: _) _ _ _; refine awl_lw ?wtq (lv_cla T0 rfl rfl rfl rcA rfl) rfl rfl rfl ?_) | (show AWL _ _ _ (⟨_, .fieldAddr _ _ _, _, _, _, _⟩ :: _) _ _ _; refine awl_pw ?wtq (pv_fa T0 rfl rfl rfl (by simp; rfl)) rfl rfl ?_) | (show AWL _ _ _ (⟨_, .binOp .eql _ _ _ _, _, _, _, _⟩ :: _) _ _ _; refine awl_pw ?wtq (pv_eql rfl rfl rfl) rfl rfl ?_) | (show AWL _ _ _ (⟨_, .pick _ _ _, _, _, _, _⟩ :: _) _ _ _; refine awl_pw ?wtq (pv_pick_t rfl rfl tfA rfl) rfl rfl ?_) | (show AWL _ _ _ (⟨_, .pick _ _ _, _, _, _, _⟩ :: _) _ _ _; refine awl_pw ?wtq (pv_pick_f rfl rfl tfA rfl) rfl rfl ?_)); case wtq => exact wtA) | refine awl_sk (wf_some rfl rfl rfl rfl tfA) rfl rfl ?_ | refine awl_nil ?_)
    refine awl_pw (wt_some' rfl rfl rfl rfl raA) (pv_eql_rng (q := (L, H)) (r := (L, H)) rfl rfl rfl) rfl rfl ?_
    repeat (first | ((first | (show AWL _ _ _ (⟨_, .move _, _, _, _, _⟩ :: _) _ _ _; refine awl_pw ?wtq (pv_move rfl rfl) rfl rfl ?_) | (show AWL _ _ _ (⟨_, .pick _ _ _, _, _, _, _⟩ :: _) _ _ _; refine awl_pw ?wtq (pv_pick_t rfl rfl tfA rfl) rfl rfl ?_)); case wtq => exact wtA))
    refine awl_hw wtA (st_call T0 (hq1) rfl rfl rfl rfl (by first | exact callee_lit | exact callee_v | exact callee_fn | assumption) rcA raA rfl ?_)
    rintro _ rfl
    repeat (first | ((first | (show AWL _ _ _ (⟨_, .move _, _, _, _, _⟩ :: _) _ _ _; refine awl_pw ?wtq (pv_move rfl rfl) rfl rfl ?_) | (show AWL _ _ _ (⟨_, .pick _ _ _, _, _, _, _⟩ :: _) _ _ _; refine awl_pw ?wtq (pv_pick_t rfl rfl tfA rfl) rfl rfl ?_)); case wtq => exact wtA))
    refine awl_hw wtA (st_call T0 (hq2) rfl rfl rfl rfl (by first | exact callee_lit | exact callee_v | exact callee_fn | assumption) rcA raA rfl ?_)
    rintro _ rfl
    repeat (first | ((first | (show AWL _ _ _ (⟨_, .move _, _, _, _, _⟩ :: _) _ _ _; refine awl_pw ?wtq (pv_move rfl rfl) rfl rfl ?_) | (show AWL _ _ _ (⟨_, .load _ _, _, _, _, _⟩ :: _) _ _ _; refine awl_lw ?wtq (lv_cla T0 rfl rfl rfl rcA rfl) rfl rfl rfl ?_) | (show AWL _ _ _ (⟨_, .unOp .not _ _, _, _, _, _⟩ :: _) _ _ _; refine awl_pw ?wtq (pv_not rfl rfl) rfl rfl ?_) | (show AWL _ _ _ (⟨_, .pick _ _ _, _, _, _, _⟩ :: _) _ _ _; refine awl_pw ?wtq (pv_pick_t rfl rfl tfA rfl) rfl rfl ?_)); case wtq => exact wtA) | refine awl_sk (wf_some rfl rfl rfl rfl tfA) rfl rfl ?_)
    refine awl_hw wtA (st_call T0 (awake_p) rfl rfl rfl rfl (by first | exact callee_lit | exact callee_v | exact callee_fn | assumption) rcA raA rfl ?_)
    rintro _ rfl
    repeat (first | refine awp_ret ?_ | ((first | (show AWL _ _ _ (⟨_, .assign _, _, _, _, _⟩ :: _) _ _ _; refine awl_pw ?wtq (pv_assign rfl rfl) rfl rfl ?_) | (show AWL _ _ _ (⟨_, .pick _ _ _, _, _, _, _⟩ :: _) _ _ _; refine awl_pw ?wtq (pv_pick_t rfl rfl tfA rfl) rfl rfl ?_)); case wtq => exact wtA) | refine awl_nil ?_)
    exact body_p (.cons rfl .nil) rfl
  repeat (first | refine awp_seq ?_ | refine awp_region_lit rfl ?_ | ((first | (show AWL _ _ _ (⟨_, .move _, _, _, _, _⟩ :: _) _ _ _; refine awl_pw ?wtq (pv_move rfl rfl) rfl rfl ?_) | (show AWL _ _ _ (⟨_, .assign _, _, _, _, _⟩ :: _) _ _ _; refine awl_pw ?wtq (pv_assign rfl rfl) rfl rfl ?_) | (show AWL _ _ _ (⟨_, .load _ _, _, _, _, _⟩ :: _) _ _ _; refine awl_lw ?wtq (lv_cl1 T0 rfl rfl rfl rcA raA) rfl rfl rfl ?_) | (show AWL _ _ _ (⟨_, .load _ _, _, _, _, _⟩ :: _) _ _ _; refine awl_lw ?wtq (lv_cla T0 rfl rfl rfl rcA rfl) rfl rfl rfl ?_) | (show AWL _ _ _ (⟨_, .load _ _, _, _, _, _⟩ :: _) _ _ _; refine awl_lw ?wtq (lv_elt_sc T0 rfl rfl rfl rfl) rfl rfl rfl ?_) | (show AWL _ _ _ (⟨_, .fieldAddr _ _ _, _, _, _, _⟩ :: _) _ _ _; refine awl_pw ?wtq (pv_fa T0 rfl rfl rfl (by simp; rfl)) rfl rfl ?_) | (show AWL _ _ _ (⟨_, .fieldAddr _ _ _, _, _, _, _⟩ :: _) _ _ _; refine awl_pw ?wtq (pv_fa_elt T0 rfl rfl rfl (by simp; rfl)) rfl rfl ?_) | (show AWL _ _ _ (⟨_, .indexAddr _ _ _, _, _, _, _⟩ :: _) _ _ _; refine awl_pw ?wtq (pv_ix_t T0 rfl rfl rfl rfl (by omega) ixA) rfl rfl ?_) | (show AWL _ _ _ (⟨_, .binOp .eql _ _ _ _, _, _, _, _⟩ :: _) _ _ _; refine awl_pw ?wtq (pv_eql rfl rfl rfl) rfl rfl ?_) | (show AWL _ _ _ (⟨_, .pick _ _ _, _, _, _, _⟩ :: _) _ _ _; refine awl_pw ?wtq (pv_pick_t rfl rfl tfA rfl) rfl rfl ?_)); case wtq => exact wtA) | refine awl_nil ?_)
  cases s2 : (m.hou.getD j default).sells
  · skip
    refine awl_pw (wt_some' rfl rfl rfl rfl raA) (pv_eql_rng (q := (L, H)) (r := (L, H)) rfl rfl rfl) rfl rfl ?_
    repeat (first | ((first | (show AWL _ _ _ (⟨_, .move _, _, _, _, _⟩ :: _) _ _ _; refine awl_pw ?wtq (pv_move rfl rfl) rfl rfl ?_) | (show AWL _ _ _ (⟨_, .pick _ _ _, _, _, _, _⟩ :: _) _ _ _; refine awl_pw ?wtq (pv_pick_t rfl rfl tfA rfl) rfl rfl ?_)); case wtq => exact wtA))
    refine awl_hw wtA (st_call T0 (hq1) rfl rfl rfl rfl (by first | exact callee_lit | exact callee_v | exact callee_fn | assumption) rcA raA rfl ?_)
    rintro _ rfl
    repeat (first | ((first | (show AWL _ _ _ (⟨_, .move _, _, _, _, _⟩ :: _) _ _ _; refine awl_pw ?wtq (pv_move rfl rfl) rfl rfl ?_) | (show AWL _ _ _ (⟨_, .pick _ _ _, _, _, _, _⟩ :: _) _ _ _; refine awl_pw ?wtq (pv_pick_t rfl rfl tfA rfl) rfl rfl ?_)); case wtq => exact wtA))
    refine awl_hw wtA (st_call T0 (hq2) rfl rfl rfl rfl (by first | exact callee_lit | exact callee_v | exact callee_fn | assumption) rcA raA rfl ?_)
    rintro _ rfl
    repeat (first | ((first | (show AWL _ _ _ (⟨_, .move _, _, _, _, _⟩ :: _) _ _ _; refine awl_pw ?wtq (pv_move rfl rfl) rfl rfl ?_) | (show AWL _ _ _ (⟨_, .load _ _, _, _, _, _⟩ :: _) _ _ _; refine awl_lw ?wtq (lv_cla T0 rfl rfl rfl rcA rfl) rfl rfl rfl ?_) | (show AWL _ _ _ (⟨_, .unOp .not _ _, _, _, _, _⟩ :: _) _ _ _; refine awl_pw ?wtq (pv_not rfl rfl) rfl rfl ?_) | (show AWL _ _ _ (⟨_, .pick _ _ _, _, _, _, _⟩ :: _) _ _ _; refine awl_pw ?wtq (pv_pick_t rfl rfl tfA rfl) rfl rfl ?_)); case wtq => exact wtA) | refine awl_sk (wf_some rfl rfl rfl rfl tfA) rfl rfl ?_)
    refine awl_hw wtA (st_call T0 (awake_p) rfl rfl rfl rfl (by first | exact callee_lit | exact callee_v | exact callee_fn | assumption) rcA raA rfl ?_)
    rintro _ rfl
    repeat (first | refine awp_ret ?_ | ((first | (show AWL _ _ _ (⟨_, .assign _, _, _, _, _⟩ :: _) _ _ _; refine awl_pw ?wtq (pv_assign rfl rfl) rfl rfl ?_) | (show AWL _ _ _ (⟨_, .pick _ _ _, _, _, _, _⟩ :: _) _ _ _; refine awl_pw ?wtq (pv_pick_t rfl rfl tfA rfl) rfl rfl ?_)); case wtq => exact wtA) | refine awl_nil ?_)
    exact body_p (.cons rfl .nil) rfl
  · obtain ⟨rfl, rfl⟩ := hbx s1 s2
    skip
    refine awl_pw (wt_some' rfl rfl rfl rfl raA) (pv_eql_rng (q := (Lx, Hx)) (r := (Lx, Hx)) rfl rfl rfl) rfl rfl ?_
    repeat (first | ((first | (show AWL _ _ _ (⟨_, .move _, _, _, _, _⟩ :: _) _ _ _; refine awl_pw ?wtq (pv_move rfl rfl) rfl rfl ?_) | (show AWL _ _ _ (⟨_, .pick _ _ _, _, _, _, _⟩ :: _) _ _ _; refine awl_pw ?wtq (pv_pick_t rfl rfl tfA rfl) rfl rfl ?_)); case wtq => exact wtA))
    refine awl_hw wtA (st_call T0 (hq1) rfl rfl rfl rfl (by first | exact callee_lit | exact callee_v | exact callee_fn | assumption) rcA raA rfl ?_)
    rintro _ rfl
    repeat (first | ((first | (show AWL _ _ _ (⟨_, .move _, _, _, _, _⟩ :: _) _ _ _; refine awl_pw ?wtq (pv_move rfl rfl) rfl rfl ?_) | (show AWL _ _ _ (⟨_, .pick _ _ _, _, _, _, _⟩ :: _) _ _ _; refine awl_pw ?wtq (pv_pick_t rfl rfl tfA rfl) rfl rfl ?_)); case wtq => exact wtA))
    refine awl_hw wtA (st_call T0 (hq2) rfl rfl rfl rfl (by first | exact callee_lit | exact callee_v | exact callee_fn | assumption) rcA raA rfl ?_)
    rintro _ rfl
    repeat (first | ((first | (show AWL _ _ _ (⟨_, .move _, _, _, _, _⟩ :: _) _ _ _; refine awl_pw ?wtq (pv_move rfl rfl) rfl rfl ?_) | (show AWL _ _ _ (⟨_, .load _ _, _, _, _, _⟩ :: _) _ _ _; refine awl_lw ?wtq (lv_cla T0 rfl rfl rfl rcA rfl) rfl rfl rfl ?_) | (show AWL _ _ _ (⟨_, .unOp .not _ _, _, _, _, _⟩ :: _) _ _ _; refine awl_pw ?wtq (pv_not rfl rfl) rfl rfl ?_) | (show AWL _ _ _ (⟨_, .pick _ _ _, _, _, _, _⟩ :: _) _ _ _; refine awl_pw ?wtq (pv_pick_t rfl rfl tfA rfl) rfl rfl ?_)); case wtq => exact wtA))
    refine awl_pw (wt_some' rfl rfl rfl rfl raA) (pv_eql_rng (q := (Lx, Hx)) (r := (Lx, Hx)) rfl rfl rfl) rfl rfl ?_
    repeat (first | ((first | (show AWL _ _ _ (⟨_, .move _, _, _, _, _⟩ :: _) _ _ _; refine awl_pw ?wtq (pv_move rfl rfl) rfl rfl ?_) | (show AWL _ _ _ (⟨_, .pick _ _ _, _, _, _, _⟩ :: _) _ _ _; refine awl_pw ?wtq (pv_pick_t rfl rfl tfA rfl) rfl rfl ?_) | (show AWL _ _ _ (⟨_, .pick _ _ _, _, _, _, _⟩ :: _) _ _ _; refine awl_pw ?wtq (pv_pick_f rfl rfl tfA rfl) rfl rfl ?_)); case wtq => exact wtA))
    refine awl_hw wtA (st_call T0 (awake_p) rfl rfl rfl rfl (by first | exact callee_lit | exact callee_v | exact callee_fn | assumption) rcA raA rfl ?_)
    rintro _ rfl
    repeat (first | refine awp_ret ?_ | ((first | (show AWL _ _ _ (⟨_, .assign _, _, _, _, _⟩ :: _) _ _ _; refine awl_pw ?wtq (pv_assign rfl rfl) rfl rfl ?_) | (show AWL _ _ _ (⟨_, .pick _ _ _, _, _, _, _⟩ :: _) _ _ _; refine awl_pw ?wtq (pv_pick_t rfl rfl tfA rfl) rfl rfl ?_)); case wtq => exact wtA) | refine awl_nil ?_)
    exact body_p (.cons rfl .nil) rfl
end Go.Proofs.Ytallicfckbdeaaa
