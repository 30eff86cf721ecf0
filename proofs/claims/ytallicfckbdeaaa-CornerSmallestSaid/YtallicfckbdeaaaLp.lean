/- The law CornerLeft (Try.func15): walk. -/
import Derived.Test.YtallicfckbdeaaaLo
import Derived.Test.YtallicfckbdeaaaGTy
import Derived.Test.YtallicfckbdeaaaGTs
import Derived.Test.YtallicfckbdeaaaGPa
namespace Go.Proofs.Ytallicfckbdeaaa
open Go Go.RowKit Go.Tl
set_option linter.unusedVariables false
set_option linter.unusedSimpArgs false
set_option maxRecDepth 100000
set_option maxHeartbeats 4000000
theorem shl_get {v : Int} {j : Nat} (h : v = (j : Int)) (hj : j ≤ 20) : IntKind.i64.wrap (1 * 2 ^ (min v.toNat 64)) = ((2 ^ j : Nat) : Int) := shl_one h hj
theorem mask_or (e : List Int) (k : Nat) : maskL e (k + 1) = maskL e k ||| 2 ^ (e.getD k 0).toNat := rfl
theorem asc_at {e : List Int} (h : e.Pairwise (· < ·)) {i j : Nat} (hij : i < j) (hj : j < e.length) : e.getD i 0 < e.getD j 0 := by
  rw [List.getD_eq_getElem?_getD, List.getD_eq_getElem?_getD, List.getElem?_eq_getElem hj, List.getElem?_eq_getElem (show i < e.length by omega)]
  exact List.pairwise_iff_getElem.1 h i j (by omega) hj hij
theorem out_truth_has {m : MktD} (hf : faultN m = 0) (l : List Int) (hl : ∀ x ∈ l, 0 ≤ x ∧ x < m.hou.length) : faultN (outM m l) = 0 := by
  have hv := vmkt hf
  have hvo := out_ok hv (fun x hx => (hl x hx).1)
  have h1 : (outM m l).hou.length = m.hou.length := out_len _ _ _
  unfold faultN at hf ⊢
  show (if 6 < (outM m l).hou.length ∨ 8 < m.con.length then (3 : Int) else if (inB m.ex 1 200 = true ∧ (outM m l).hou.length ≠ 0) ∧ (outM m l).hou.all houB = true ∧ m.con.all (conB (outM m l).hou.length) = true then 0 else 1) = 0
  have hall : (outM m l).hou.all houB = true := by
    refine (all_getD (d := (default : HouD))).2 fun i hi => ?_
    show houB ((outM m l).hou.getD i default) = true
    have a := hvo.held i hi
    have b := hvo.ask i hi
    simp only [houB, Bool.and_eq_true, inB_iff, decide_eq_true_eq]
    exact ⟨a.1, a.2.1, a.2.2, b⟩
  rw [h1]
  split at hf
  · cases hf
  · rename_i h0
    rw [if_neg h0]
    split at hf
    · rename_i h1
      rw [if_pos ⟨h1.1, hall, h1.2.2⟩]
    · cases hf
attribute [local irreducible] AWP AWL AOp PV LV AWT AWE
section
variable {g2 k n b : Nat} {Y : List Int} {cp cc : Bool} {m : MktD} {set : Nat} {w : Int} {u1 u5 u6 u7 u8 u9 u10 : AV} {rest : List Ent}
theorem lp_8 (hk : k < Y.length) (hY : Ext m.hou.length Y 0) (hl : m.hou.length ≤ 6) (hYl : Y.length ≤ 6) {ops : Array Oper} (h : regF Try.f15 8 = some ops) :
    AWP Try.prog Try.f15.ntmps none (.region 8 ops true) (cutQ (fun s h => s = [(58, boolA false), (1, u1), (2, .v (ptrV g2)), (5, .t (intsT true Y)), (6, u6), (7, u7), (8, intA k)] ∧ h = [.cl g2 25 [intA m.ex, .t (housT cp m.hou), .t (consT cc m.con)]]))
      [(1, u1), (2, .v (ptrV g2)), (5, .t (intsT true Y)), (6, u6), (7, u7), (8, intA k)] [.cl g2 25 [intA m.ex, .t (housT cp m.hou), .t (consT cc m.con)]] := by
  cases h
  have hx := (ext_iff.1 hY).1 _ (getD_mem (d := (0 : Int)) hk)
  have c1 := in_q (n := Y.getD k 0) (lo := 0) (hi := (m.hou.length : Int) - 1) (r := true) (inB_iff.2 (by omega))
  by_cases h0 : 0 < k
  · have d1 : decide ((0 : Int) < (k : Int)) = true := decide_eq_true (by omega)
    have hlt := asc_at (ext_iff.1 hY).2 (show k - 1 < k by omega) hk
    have d2 : decide (Y.getD k 0 ≤ Y.getD (k - 1) 0) = false := decide_eq_false (by omega)
    have hk1 : ((k : Int) - 1).toNat = k - 1 := by omega
    refine awp_par T0 (l := (0 :: 1 :: 2 :: 3 :: 4 :: 5 :: 6 :: 7 :: 8 :: 9 :: 10 :: 11 :: 12 :: 13 :: 14 :: 15 :: 16 :: 17 :: 18 :: 19 :: 20 :: 21 :: 22 :: 23 :: 24 :: 25 :: [])) rfl (by kernel_rfl) (by kernel_rfl) ?_
    apply parW_op (ds := [5]) rfl rfl rfl rfl (by kernel_rfl)
    · exact .inl ⟨(wt_none rfl), stepQ_pv (pv_move rfl rfl) rfl rfl⟩
    apply parW_op (ds := [8]) rfl rfl rfl rfl (by kernel_rfl)
    · exact .inl ⟨(wt_none rfl), stepQ_pv (pv_move rfl rfl) rfl rfl⟩
    apply parW_op (ds := [33, 34]) rfl rfl rfl rfl (by kernel_rfl)
    · exact .inl ⟨(wt_none rfl), stepQ_pv (pv_ix_t T0 rfl rfl rfl rfl (by omega) ixA) rfl rfl⟩
    apply parW_op (ds := [35]) rfl rfl rfl rfl (by kernel_rfl)
    · exact .inl ⟨(wt_none rfl), stepQ_lv (lv_elt_sc T0 rfl rfl rfl rfl) rfl rfl⟩
    apply parW_op (ds := [2]) rfl rfl rfl rfl (by kernel_rfl)
    · exact .inl ⟨(wt_none rfl), stepQ_pv (pv_fa T0 rfl rfl rfl (by simp; rfl)) rfl rfl⟩
    apply parW_op (ds := [37]) rfl rfl rfl rfl (by kernel_rfl)
    · exact .inl ⟨(wt_none rfl), stepQ_lv (lv_cl1 T0 rfl rfl rfl rcA raA) rfl rfl⟩
    apply parW_op (ds := [38]) rfl rfl rfl rfl (by kernel_rfl)
    · exact .inl ⟨(wt_none rfl), stepQ_pv (pv_len_t T0 rfl rfl rfl) rfl rfl⟩
    apply parW_op (ds := [39]) rfl rfl rfl rfl (by kernel_rfl)
    · exact .inl ⟨(wt_none rfl), stepQ_pv (pv_sub rfl rfl rfl (by first | assumption | exact wr64 (by omega))) rfl rfl⟩
    apply parW_op (ds := [36, 40]) rfl rfl rfl rfl (by kernel_rfl)
    · refine .inl ⟨(wt_none rfl), ?_⟩
      refine st_call T0 (c1) rfl rfl rfl rfl (by first | exact callee_lit | exact callee_v | exact callee_fn | assumption) rcA raA rfl ?_
      rintro _ rfl
      exact ⟨_, Ghost.refl, rfl⟩
    apply parW_op (ds := [41]) rfl rfl rfl rfl (by kernel_rfl)
    · exact .inl ⟨(wt_none rfl), stepQ_pv (pv_not rfl rfl) rfl rfl⟩
    apply parW_op (ds := [42]) rfl rfl rfl rfl (by kernel_rfl)
    · exact .inl ⟨(wt_none rfl), stepQ_pv (pv_move rfl rfl) rfl rfl⟩
    apply parW_op (ds := [8, 43]) rfl rfl rfl rfl (by kernel_rfl)
    · exact .inl ⟨wtS, stepQ_pv (pv_move rfl rfl) rfl rfl⟩
    apply parW_op (ds := [44, 43]) rfl rfl rfl rfl (by kernel_rfl)
    · exact .inl ⟨wtS, stepQ_pv (pv_gtr rfl rfl rfl) rfl rfl⟩
    apply parW_op (ds := [45, 43]) rfl rfl rfl rfl (by kernel_rfl)
    · exact .inl ⟨wtS, stepQ_pv (pv_move rfl rfl) rfl rfl⟩
    apply parW_op (ds := [5, 46]) rfl rfl rfl rfl (by kernel_rfl)
    · exact .inl ⟨wtS, stepQ_pv (pv_move rfl rfl) rfl rfl⟩
    apply parW_op (ds := [8, 46]) rfl rfl rfl rfl (by kernel_rfl)
    · exact .inl ⟨wtS, stepQ_pv (pv_move rfl rfl) rfl rfl⟩
    apply parW_op (ds := [47, 48, 46]) rfl rfl rfl rfl (by kernel_rfl)
    · exact .inl ⟨wtS, stepQ_pv (pv_ix_t T0 rfl rfl rfl rfl (by omega) ixA) rfl rfl⟩
    apply parW_op (ds := [49, 46]) rfl rfl rfl rfl (by kernel_rfl)
    · exact .inl ⟨wtS, stepQ_lv (lv_elt_sc T0 rfl rfl rfl rfl) rfl rfl⟩
    apply parW_op (ds := [5, 46]) rfl rfl rfl rfl (by kernel_rfl)
    · exact .inl ⟨wtS, stepQ_pv (pv_move rfl rfl) rfl rfl⟩
    apply parW_op (ds := [8, 46]) rfl rfl rfl rfl (by kernel_rfl)
    · exact .inl ⟨wtS, stepQ_pv (pv_move rfl rfl) rfl rfl⟩
    apply parW_op (ds := [52, 46]) rfl rfl rfl rfl (by kernel_rfl)
    · exact .inl ⟨wtS, stepQ_pv (pv_sub rfl rfl rfl (by first | assumption | exact wr64 (by omega))) rfl rfl⟩
    apply parW_op (ds := [51, 53, 46]) rfl rfl rfl rfl (by kernel_rfl)
    · exact .inl ⟨wtS, stepQ_pv (pv_ix_t T0 rfl rfl rfl rfl (by omega) hk1) rfl rfl⟩
    apply parW_op (ds := [54, 46]) rfl rfl rfl rfl (by kernel_rfl)
    · exact .inl ⟨wtS, stepQ_lv (lv_elt_sc T0 rfl rfl rfl rfl) rfl rfl⟩
    apply parW_op (ds := [50, 55, 46]) rfl rfl rfl rfl (by kernel_rfl)
    · exact .inl ⟨wtS, stepQ_pv (pv_leq rfl rfl rfl) rfl rfl⟩
    apply parW_op (ds := [46, 56, 43]) rfl rfl rfl rfl (by kernel_rfl)
    · exact .inl ⟨wtS, stepQ_pv (pv_pick_t rfl rfl tfA rfl) rfl rfl⟩
    apply parW_op (ds := [43, 57]) rfl rfl rfl rfl (by kernel_rfl)
    · exact .inl ⟨(wt_none rfl), stepQ_pv (pv_pick_f rfl rfl tfA rfl) rfl rfl⟩
    refine parW_nil ?_
    rw [d2]
    exact cut_n ⟨rfl, rfl⟩ ssA rcA
  · have d1 : decide ((0 : Int) < (k : Int)) = false := decide_eq_false (by omega)
    refine awp_par T0 (l := (0 :: 1 :: 2 :: 3 :: 4 :: 5 :: 6 :: 7 :: 8 :: 9 :: 10 :: 11 :: 12 :: 13 :: 14 :: 15 :: 16 :: 17 :: 18 :: 19 :: 20 :: 21 :: 22 :: 23 :: 24 :: 25 :: [])) rfl (by kernel_rfl) (by kernel_rfl) ?_
    apply parW_op (ds := [5]) rfl rfl rfl rfl (by kernel_rfl)
    · exact .inl ⟨(wt_none rfl), stepQ_pv (pv_move rfl rfl) rfl rfl⟩
    apply parW_op (ds := [8]) rfl rfl rfl rfl (by kernel_rfl)
    · exact .inl ⟨(wt_none rfl), stepQ_pv (pv_move rfl rfl) rfl rfl⟩
    apply parW_op (ds := [33, 34]) rfl rfl rfl rfl (by kernel_rfl)
    · exact .inl ⟨(wt_none rfl), stepQ_pv (pv_ix_t T0 rfl rfl rfl rfl (by omega) ixA) rfl rfl⟩
    apply parW_op (ds := [35]) rfl rfl rfl rfl (by kernel_rfl)
    · exact .inl ⟨(wt_none rfl), stepQ_lv (lv_elt_sc T0 rfl rfl rfl rfl) rfl rfl⟩
    apply parW_op (ds := [2]) rfl rfl rfl rfl (by kernel_rfl)
    · exact .inl ⟨(wt_none rfl), stepQ_pv (pv_fa T0 rfl rfl rfl (by simp; rfl)) rfl rfl⟩
    apply parW_op (ds := [37]) rfl rfl rfl rfl (by kernel_rfl)
    · exact .inl ⟨(wt_none rfl), stepQ_lv (lv_cl1 T0 rfl rfl rfl rcA raA) rfl rfl⟩
    apply parW_op (ds := [38]) rfl rfl rfl rfl (by kernel_rfl)
    · exact .inl ⟨(wt_none rfl), stepQ_pv (pv_len_t T0 rfl rfl rfl) rfl rfl⟩
    apply parW_op (ds := [39]) rfl rfl rfl rfl (by kernel_rfl)
    · exact .inl ⟨(wt_none rfl), stepQ_pv (pv_sub rfl rfl rfl (by first | assumption | exact wr64 (by omega))) rfl rfl⟩
    apply parW_op (ds := [36, 40]) rfl rfl rfl rfl (by kernel_rfl)
    · refine .inl ⟨(wt_none rfl), ?_⟩
      refine st_call T0 (c1) rfl rfl rfl rfl (by first | exact callee_lit | exact callee_v | exact callee_fn | assumption) rcA raA rfl ?_
      rintro _ rfl
      exact ⟨_, Ghost.refl, rfl⟩
    apply parW_op (ds := [41]) rfl rfl rfl rfl (by kernel_rfl)
    · exact .inl ⟨(wt_none rfl), stepQ_pv (pv_not rfl rfl) rfl rfl⟩
    apply parW_op (ds := [42]) rfl rfl rfl rfl (by kernel_rfl)
    · exact .inl ⟨(wt_none rfl), stepQ_pv (pv_move rfl rfl) rfl rfl⟩
    apply parW_op (ds := [8, 43]) rfl rfl rfl rfl (by kernel_rfl)
    · exact .inl ⟨wtS, stepQ_pv (pv_move rfl rfl) rfl rfl⟩
    apply parW_op (ds := [44, 43]) rfl rfl rfl rfl (by kernel_rfl)
    · exact .inl ⟨wtS, stepQ_pv (pv_gtr rfl rfl rfl) rfl rfl⟩
    apply parW_op (ds := [45, 43]) rfl rfl rfl rfl (by kernel_rfl)
    · exact .inl ⟨wtS, stepQ_pv (pv_move rfl rfl) rfl rfl⟩
    apply parW_op (ds := [5, 46]) rfl rfl rfl rfl (by kernel_rfl)
    · exact .inr ⟨(wf_some rfl rfl rfl rfl tfA), rfl⟩
    apply parW_op (ds := [8, 46]) rfl rfl rfl rfl (by kernel_rfl)
    · exact .inr ⟨(wf_some rfl rfl rfl rfl tfA), rfl⟩
    apply parW_op (ds := [47, 48, 46]) rfl rfl rfl rfl (by kernel_rfl)
    · exact .inr ⟨(wf_some rfl rfl rfl rfl tfA), rfl⟩
    apply parW_op (ds := [49, 46]) rfl rfl rfl rfl (by kernel_rfl)
    · exact .inr ⟨(wf_some rfl rfl rfl rfl tfA), rfl⟩
    apply parW_op (ds := [5, 46]) rfl rfl rfl rfl (by kernel_rfl)
    · exact .inr ⟨(wf_some rfl rfl rfl rfl tfA), rfl⟩
    apply parW_op (ds := [8, 46]) rfl rfl rfl rfl (by kernel_rfl)
    · exact .inr ⟨(wf_some rfl rfl rfl rfl tfA), rfl⟩
    apply parW_op (ds := [52, 46]) rfl rfl rfl rfl (by kernel_rfl)
    · exact .inr ⟨(wf_some rfl rfl rfl rfl tfA), rfl⟩
    apply parW_op (ds := [51, 53, 46]) rfl rfl rfl rfl (by kernel_rfl)
    · exact .inr ⟨(wf_some rfl rfl rfl rfl tfA), rfl⟩
    apply parW_op (ds := [54, 46]) rfl rfl rfl rfl (by kernel_rfl)
    · exact .inr ⟨(wf_some rfl rfl rfl rfl tfA), rfl⟩
    apply parW_op (ds := [50, 55, 46]) rfl rfl rfl rfl (by kernel_rfl)
    · exact .inr ⟨(wf_some rfl rfl rfl rfl tfA), rfl⟩
    apply parW_op (ds := [46, 56, 43]) rfl rfl rfl rfl (by kernel_rfl)
    · exact .inl ⟨wtS, stepQ_pv (pv_pick_f rfl rfl tfA rfl) rfl rfl⟩
    apply parW_op (ds := [43, 57]) rfl rfl rfl rfl (by kernel_rfl)
    · exact .inl ⟨(wt_none rfl), stepQ_pv (pv_pick_f rfl rfl tfA rfl) rfl rfl⟩
    refine parW_nil ?_
    exact cut_n ⟨rfl, rfl⟩ ssA rcA
theorem lp_12 (hv : VMkt m) (hw : 0 ≤ w ∧ w ≤ 255) (hb : b < 2 ^ m.hou.length) (hwb : w.tmod ((2 ^ m.hou.length : Nat) : Int) = (b : Int)) {ops : Array Oper} (h : regF Try.f15 12 = some ops) :
    AWP Try.prog Try.f15.ntmps none (.region 12 ops true) (cutQ (fun s h => ∃ g11, s = [(11, .v (ptrV g11)), (12, .t (intsT true (bitsL b m.hou.length))), (5, u5), (6, u6), (9, u9)] ∧ h = .cl g11 25 [intA m.ex, .t (housT true (outM m (bitsL b m.hou.length)).hou), .t (consT cc m.con)] :: .cl g2 25 [intA m.ex, .t (housT cp m.hou), .t (consT cc m.con)] :: rest))
      [(1, .v (.int .u8 w)), (2, .v (ptrV g2)), (5, u5), (6, u6), (9, u9)] (.cl g2 25 [intA m.ex, .t (housT cp m.hou), .t (consT cc m.con)] :: rest) := by
  cases h
  have hlen := hv.len
  have hpu : 2 ^ m.hou.length ≤ 2 ^ 6 := Nat.pow_le_pow_right (by omega) hlen
  have hp1 : 1 ≤ 2 ^ m.hou.length := Nat.one_le_two_pow
  have hsh : IntKind.i64.wrap (1 * 2 ^ (min (m.hou.length : Int).toNat 64)) = ((2 ^ m.hou.length : Nat) : Int) := shl_one rfl (by omega)
  have c1 := without_q cp cc m b hv (by omega)
  generalize 2 ^ m.hou.length = P at *
  refine awp_tree T0 [(0, 1), (1, 0), (2, 0), (3, 0), (4, 1), (5, 0), (6, 0), (7, 0), (8, 0), (9, 3), (10, 0), (11, 0), (12, 0), (13, 2), (14, 3), (15, 0)] (.op 0 1 (.op 1 0 (.op 2 0 (.op 3 0 (.op 4 1 (.op 5 0 (.op 6 0 (.op 7 0 (.op 8 0 (.fork 9 (.op 10 0 (.op 11 0 (.op 12 0 (.op 13 2 (.op 14 3 (.op 15 0 .stop)))))) 13 (.op 9 3 (.op 10 0 (.op 11 0 (.op 12 0 (.op 14 3 (.op 15 0 .stop)))))))))))))))) [.cl g2 _ _] rfl (by kernel_rfl) rcA ?_
  refine awt_lo rfl (wt_none rfl) (lv_cla T0 rfl rfl rfl rcA rfl) rfl rfl rfl ?_
  refine awt_po rfl (wt_none rfl) (pv_move rfl rfl) rfl rfl ?_
  refine awt_po rfl (wt_none rfl) (pv_convert rfl rfl Try.underlying5 Try.underlying3 (by first | assumption | exact wr64 (by omega))) rfl rfl ?_
  refine awt_po rfl (wt_none rfl) (pv_fa T0 rfl rfl rfl (by simp; rfl)) rfl rfl ?_
  refine awt_lo rfl (wt_none rfl) (lv_cl1 T0 rfl rfl rfl rcA raA) rfl rfl rfl ?_
  refine awt_po rfl (wt_none rfl) (pv_len_t T0 rfl rfl rfl) rfl rfl ?_
  refine awt_po rfl (wt_none rfl) (pv_convert rfl rfl Try.underlying3 Try.underlying92 (wu64 (by omega))) rfl rfl ?_
  refine awt_po rfl (wt_none rfl) (pv_shl rfl rfl rfl (by omega) hsh) rfl rfl ?_
  refine awt_po rfl (wt_none rfl) (pv_rem rfl rfl rfl (by omega) (by first | assumption | rfl)) rfl rfl ?_
  refine awt_fork ?_ ?_
  · skip
    refine awt_h (hm := []) rfl (wt_none rfl) rcA rfl (st_call T0 (c1) rfl rfl rfl rfl (by first | exact callee_lit | exact callee_v | exact callee_fn | assumption) rcA raA rfl ?_)
    rintro _ rfl
    refine awt_n1 rfl (wt_none rfl) (pv_move rfl rfl) rfl rfl rfl ?_
    refine awt_n1 rfl (wt_none rfl) (pv_extract rfl rfl rfl) rfl rfl rfl ?_
    refine awt_n1 rfl (wt_none rfl) (pv_extract rfl rfl rfl) rfl rfl rfl ?_
    refine awt_h (hm := []) rfl (wt_none rfl) rcA rfl (st_alloc T0 rfl rfl rfl rfl scA ?_)
    intro g11
    refine awt_s (md := fun _ => True) rfl (wt_none rfl) (st_store T0 rfl rfl rfl rfl rfl (by first | assumption | (simp only [cellsA]; rfl)) rfl rfl rfl rcA rcA trivial ?_)
    refine awe_p rfl (wt_none rfl) (pv_assign rfl rfl) rfl rfl ?_
    refine awe_end ?_
    exact cut_n ⟨_, rfl, rfl⟩ ssA (SubH.refl _)
  · skip
    refine awt_h (hm := []) rfl (wt_none rfl) rcA rfl (st_alloc T0 rfl rfl rfl rfl scA ?_)
    intro g11
    refine awt_s (md := fun _ => True) rfl (wt_none rfl) (st_call T0 (c1) rfl rfl rfl rfl (by first | exact callee_lit | exact callee_v | exact callee_fn | assumption) rcA raA rfl ?_)
    rintro _ rfl
    refine awe_p rfl (wt_none rfl) (pv_move rfl rfl) rfl rfl ?_
    refine awe_p rfl (wt_none rfl) (pv_extract rfl rfl rfl) rfl rfl ?_
    refine awe_p rfl (wt_none rfl) (pv_extract rfl rfl rfl) rfl rfl ?_
    refine awe_s (md := fun _ => True) rfl (wt_none rfl) (st_store T0 rfl rfl rfl rfl rfl (by first | assumption | (simp only [cellsA]; rfl)) rfl rfl rfl rcA rcA trivial ?_)
    refine awe_p rfl (wt_none rfl) (pv_assign rfl rfl) rfl rfl ?_
    refine awe_end ?_
    exact cut_n ⟨_, rfl, rfl⟩ ssA (SubH.refl _)
end
theorem CornerLeft_p (m : MktD) (w : Int) (hl : m.hou.length ≤ maxLen) (hc : m.con.length ≤ maxLen) (hw : 0 ≤ w ∧ w ≤ 255) : PCall Try.prog 15 [mktA false false m, .v (.int .u8 w)] (fun r => r = boolA true) := by
  have hr := ready_p m hl hc
  clear hl hc
  refine acall_of_awp T0 Try.func15 rfl rfl rfl ?_
  by_cases hf : faultN m = 0
  case neg =>
    rw [decide_eq_false hf] at hr
    repeat (first | refine awp_seq ?_ | refine awp_region_lit rfl ?_)
    refine awl_hw wtA (st_box rfl rfl raA (by first | assumption | (simp only [cellsA]; rfl)) rfl rfl ?_)
    intro g2
    repeat (first | refine awp_seq ?_ | refine awp_region_lit rfl ?_ | ((first | (show AWL _ _ _ (⟨_, .assign _, _, _, _, _⟩ :: _) _ _ _; refine awl_pw ?wtq (pv_assign rfl rfl) rfl rfl ?_) | (show AWL _ _ _ (⟨_, .load _ _, _, _, _, _⟩ :: _) _ _ _; refine awl_lw ?wtq (lv_cla T0 rfl rfl rfl rcA rfl) rfl rfl rfl ?_)); case wtq => exact wtA) | refine awl_nil ?_)
    refine awl_hw wtA (st_call T0 (hr) rfl rfl rfl rfl (by first | exact callee_lit | exact callee_v | exact callee_fn | assumption) rcA raA rfl ?_)
    rintro _ rfl
    repeat (first | refine awp_seq ?_ | refine awp_region_lit rfl ?_ | refine then_n ?_ | refine awp_cond_t rfl (by first | rfl | assumption | exact dT (by omega)) ?_ | ((first | (show AWL _ _ _ (⟨_, .unOp .not _ _, _, _, _, _⟩ :: _) _ _ _; refine awl_pw ?wtq (pv_not rfl rfl) rfl rfl ?_)); case wtq => exact wtA) | refine awl_nil ?_)
    refine awl_hw wtA (st_call T0 (awake_p) rfl rfl rfl rfl (by first | exact callee_lit | exact callee_v | exact callee_fn | assumption) rcA raA rfl ?_)
    rintro _ rfl
    repeat (first | refine awp_ret ?_ | refine then_r ?_ | ((first | (show AWL _ _ _ (⟨_, .assign _, _, _, _, _⟩ :: _) _ _ _; refine awl_pw ?wtq (pv_assign rfl rfl) rfl rfl ?_)); case wtq => exact wtA) | refine awl_nil ?_)
    exact body_p (.cons rfl .nil) rfl
  have hv := vmkt hf
  have hlen := hv.len
  have hclen := hv.clen
  rw [decide_eq_true hf] at hr
  obtain ⟨Y, hR, hY⟩ := lev_min hf
  have hYx := ext_iff.1 hY.ext
  have hYr := ext_room hY.ext (Int.natCast_nonneg _)
  have hYl : Y.length ≤ 6 := by omega
  have hM := market_p m (by omega) (by omega)
  have hL := Leave_p true true m (by omega) (by omega)
  rw [hR] at hL
  replace hL : PCall Try.prog 39 [mktA true true m] (fun r => r = .tup [.t (intsT true Y), intA 0]) := hL
  have hp6 : 2 ^ m.hou.length ≤ 2 ^ 6 := Nat.pow_le_pow_right (by omega) hlen
  have hmk := mask_lt hYx.1 Y.length (Nat.le_refl _)
  have hWY := without_q false false m (maskL Y Y.length) hv (by omega)
  rw [show bitsL (maskL Y Y.length) m.hou.length = Y from by rw [bits_n hmk (by omega)]; exact bits_mask hY.ext (by omega)] at hWY
  have hb0 := Int.tmod_nonneg ((2 ^ m.hou.length : Nat) : Int) hw.1
  have hp1 : 1 ≤ 2 ^ m.hou.length := Nat.one_le_two_pow
  have hb1 := Int.tmod_lt_of_pos w (show (0 : Int) < ((2 ^ m.hou.length : Nat) : Int) by omega)
  obtain ⟨b, hb⟩ : ∃ b : Nat, w.tmod ((2 ^ m.hou.length : Nat) : Int) = b := ⟨(w.tmod ((2 ^ m.hou.length : Nat) : Int)).toNat, by omega⟩
  have hb2 : b < 2 ^ m.hou.length := by omega
  have hBx := bits_ext2 hb2 (show m.hou.length ≤ 16 by omega)
  have hBl := bits_len b m.hou.length
  have hfY := out_truth_has hf Y hYx.1
  have hfB := out_truth_has hf (bitsL b m.hou.length) (ext_iff.1 hBx).1
  have hmin := hY.min _ hBx (fun _ _ => rfl)
  have hoY : (outM m Y).hou.length = m.hou.length := out_len _ _ _
  have hoB : (outM m (bitsL b m.hou.length)).hou.length = m.hou.length := out_len _ _ _
  have hMY := market_q true false (outM m Y) (by omega) (show m.con.length ≤ 1000 by omega)
  have hMB := market_q true false (outM m (bitsL b m.hou.length)) (by omega) (show m.con.length ≤ 1000 by omega)
  have hSY := Shortage_p true true (outM m Y) (by omega) (show m.con.length ≤ 1000 by omega)
  have hSB := Shortage_p true true (outM m (bitsL b m.hou.length)) (by omega) (show m.con.length ≤ 1000 by omega)
  rw [asked_yes hfY hY.en] at hSY
  generalize lowN (outM m Y) = L at *
  generalize highN (outM m Y) = H at *
  replace hSY : PCall Try.prog 29 [mktA true true (outM m Y)] (fun r => r = .tup [.ag [intA L, intA H], intA 0]) := hSY
  repeat (first | refine awp_seq ?_ | refine awp_region_lit rfl ?_)
  refine awl_hw wtA (st_box rfl rfl raA (by first | assumption | (simp only [cellsA]; rfl)) rfl rfl ?_)
  intro g2
  repeat (first | refine awp_seq ?_ | refine awp_region_lit rfl ?_ | ((first | (show AWL _ _ _ (⟨_, .assign _, _, _, _, _⟩ :: _) _ _ _; refine awl_pw ?wtq (pv_assign rfl rfl) rfl rfl ?_) | (show AWL _ _ _ (⟨_, .load _ _, _, _, _, _⟩ :: _) _ _ _; refine awl_lw ?wtq (lv_cla T0 rfl rfl rfl rcA rfl) rfl rfl rfl ?_)); case wtq => exact wtA) | refine awl_nil ?_)
  refine awl_hw wtA (st_call T0 (hr) rfl rfl rfl rfl (by first | exact callee_lit | exact callee_v | exact callee_fn | assumption) rcA raA rfl ?_)
  rintro _ rfl
  repeat (first | refine awp_seq ?_ | refine awp_region_lit rfl ?_ | refine awp_skip ?_ | refine then_n ?_ | refine awp_cond_f rfl (by first | rfl | assumption | exact dF (by omega)) ?_ | ((first | (show AWL _ _ _ (⟨_, .load _ _, _, _, _, _⟩ :: _) _ _ _; refine awl_lw ?wtq (lv_cla T0 rfl rfl rfl rcA rfl) rfl rfl rfl ?_) | (show AWL _ _ _ (⟨_, .unOp .not _ _, _, _, _, _⟩ :: _) _ _ _; refine awl_pw ?wtq (pv_not rfl rfl) rfl rfl ?_)); case wtq => exact wtA) | refine awl_nil ?_)
  refine awl_hw wtA (st_call T0 (hM) rfl rfl rfl rfl (by first | exact callee_lit | exact callee_v | exact callee_fn | assumption) rcA raA rfl ?_)
  rintro _ rfl
  skip
  refine awl_hw wtA (st_call T0 (hL) rfl rfl rfl rfl (by first | exact callee_lit | exact callee_v | exact callee_fn | assumption) rcA raA rfl ?_)
  rintro _ rfl
  repeat (first | refine awp_seq ?_ | refine awp_block ?_ | refine awp_region_lit rfl ?_ | ((first | (show AWL _ _ _ (⟨_, .move _, _, _, _, _⟩ :: _) _ _ _; refine awl_pw ?wtq (pv_move rfl rfl) rfl rfl ?_) | (show AWL _ _ _ (⟨_, .assign _, _, _, _, _⟩ :: _) _ _ _; refine awl_pw ?wtq (pv_assign rfl rfl) rfl rfl ?_) | (show AWL _ _ _ (⟨_, .extract _ _, _, _, _, _⟩ :: _) _ _ _; refine awl_pw ?wtq (pv_extract rfl rfl rfl) rfl rfl ?_)); case wtq => exact wtA) | refine awl_nil ?_)
  refine awp_loop (fun q s h => ∃ (k : Nat), k ≤ Y.length ∧ q = Y.length - k ∧ s = [(1, .v (.int .u8 w)), (2, .v (ptrV g2)), (5, .t (intsT true Y)), (6, intA 0), (7, intA (maskL Y k : Nat)), (8, intA k)] ∧ h = [.cl g2 25 [intA m.ex, .t (housT false m.hou), .t (consT false m.con)]]) ?_ ⟨0, Nat.zero_le _, rfl, rfl, rfl⟩ ssA rcA
  rintro q s h ⟨k, hk, rfl, rfl, rfl⟩
  by_cases hkt : k < Y.length
  · have hx := hYx.1 _ (getD_mem (d := (0 : Int)) hkt)
    obtain ⟨j, hj⟩ : ∃ j : Nat, Y.getD k 0 = j := ⟨(Y.getD k 0).toNat, by omega⟩
    have hmk1 := mask_lt hYx.1 k (by omega)
    have hmk2 : 2 ^ j ≤ 2 ^ 6 := Nat.pow_le_pow_right (by omega) (by omega)
    have hsh := shl_get hj (show j ≤ 20 by omega)
    have hor : maskL Y (k + 1) = maskL Y k ||| 2 ^ j := by rw [mask_or, hj]; rfl
    have e20 : (2 : Nat) ^ 20 = 1048576 := by decide
    repeat (first | refine awp_seq ?_ | refine awp_block ?_ | refine awp_region_lit rfl ?_ | refine awp_skip ?_ | refine then_n ?_ | refine awp_cond_t rfl (by first | rfl | assumption | exact dT (by omega)) ?_ | ((first | (show AWL _ _ _ (⟨_, .move _, _, _, _, _⟩ :: _) _ _ _; refine awl_pw ?wtq (pv_move rfl rfl) rfl rfl ?_) | (show AWL _ _ _ (⟨_, .binOp .lss _ _ _ _, _, _, _, _⟩ :: _) _ _ _; refine awl_pw ?wtq (pv_lss rfl rfl rfl) rfl rfl ?_) | (show AWL _ _ _ (⟨_, .call ⟨.builtin .len, _, _⟩, _, _, _, _⟩ :: _) _ _ _; refine awl_pw ?wtq (pv_len_t T0 rfl rfl rfl) rfl rfl ?_)); case wtq => exact wtA) | refine awl_nil ?_)
    refine awp_cut _ (awp_weak ssA rcA (lp_8 (g2 := g2) (k := k) (Y := Y) (cp := false) (cc := false) (m := m) (u1 := .v (.int .u8 w)) (u6 := intA 0) (u7 := intA (maskL Y k : Nat)) hkt hY.ext hlen hYl rfl)) ?_
    rintro s h ⟨rfl, rfl⟩
    repeat (first | refine awp_region_lit rfl ?_ | refine awp_skip ?_ | refine awp_cond_f rfl (by first | rfl | assumption | exact dF (by omega)) ?_ | ((first | (show AWL _ _ _ (⟨_, .move _, _, _, _, _⟩ :: _) _ _ _; refine awl_pw ?wtq (pv_move rfl rfl) rfl rfl ?_) | (show AWL _ _ _ (⟨_, .load _ _, _, _, _, _⟩ :: _) _ _ _; refine awl_lw ?wtq (lv_elt_sc T0 rfl rfl rfl rfl) rfl rfl rfl ?_) | (show AWL _ _ _ (⟨_, .indexAddr _ _ _, _, _, _, _⟩ :: _) _ _ _; refine awl_pw ?wtq (pv_ix_t T0 rfl rfl rfl rfl (by omega) ixA) rfl rfl ?_)); case wtq => exact wtA))
    refine awl_pw (wt_none rfl) (pv_convert rfl rfl Try.underlying3 Try.underlying92 (wu64 (by omega))) rfl rfl ?_
    refine awl_pw (wt_none rfl) (pv_shl rfl rfl rfl (by omega) hsh) rfl rfl ?_
    refine awl_pw (wt_none rfl) (pv_or (m := maskL Y k) (n := 2 ^ j) rfl rfl rfl (by omega) (by omega)) rfl rfl ?_
    rw [← hor]
    repeat (first | refine awp_region_lit rfl ?_ | ((first | (show AWL _ _ _ (⟨_, .move _, _, _, _, _⟩ :: _) _ _ _; refine awl_pw ?wtq (pv_move rfl rfl) rfl rfl ?_) | (show AWL _ _ _ (⟨_, .assign _, _, _, _, _⟩ :: _) _ _ _; refine awl_pw ?wtq (pv_assign rfl rfl) rfl rfl ?_) | (show AWL _ _ _ (⟨_, .binOp .add _ _ _ _, _, _, _, _⟩ :: _) _ _ _; refine awl_pw ?wtq (pv_add rfl rfl rfl (by first | assumption | exact wr64 (by omega))) rfl rfl ?_)); case wtq => exact wtA) | refine awl_nil ?_)
    refine rnd_n _ _ _ ?_ ⟨k + 1, hkt, rfl, rfl, rfl⟩ ssA rcA
    omega
  obtain rfl : k = Y.length := by omega
  repeat (first | refine awp_seq ?_ | refine awp_region_lit rfl ?_ | refine awp_exit ?_ | refine then_n ?_ | refine awp_cond_f rfl (by first | rfl | assumption | exact dF (by omega)) ?_ | ((first | (show AWL _ _ _ (⟨_, .move _, _, _, _, _⟩ :: _) _ _ _; refine awl_pw ?wtq (pv_move rfl rfl) rfl rfl ?_) | (show AWL _ _ _ (⟨_, .load _ _, _, _, _, _⟩ :: _) _ _ _; refine awl_lw ?wtq (lv_cla T0 rfl rfl rfl rcA rfl) rfl rfl rfl ?_) | (show AWL _ _ _ (⟨_, .binOp .lss _ _ _ _, _, _, _, _⟩ :: _) _ _ _; refine awl_pw ?wtq (pv_lss rfl rfl rfl) rfl rfl ?_) | (show AWL _ _ _ (⟨_, .call ⟨.builtin .len, _, _⟩, _, _, _, _⟩ :: _) _ _ _; refine awl_pw ?wtq (pv_len_t T0 rfl rfl rfl) rfl rfl ?_)); case wtq => exact wtA) | refine awl_nil ?_)
  refine awl_hw wtA (st_call T0 (hWY) rfl rfl rfl rfl (by first | exact callee_lit | exact callee_v | exact callee_fn | assumption) rcA raA rfl ?_)
  rintro _ rfl
  repeat (first | ((first | (show AWL _ _ _ (⟨_, .move _, _, _, _, _⟩ :: _) _ _ _; refine awl_pw ?wtq (pv_move rfl rfl) rfl rfl ?_) | (show AWL _ _ _ (⟨_, .extract _ _, _, _, _, _⟩ :: _) _ _ _; refine awl_pw ?wtq (pv_extract rfl rfl rfl) rfl rfl ?_)); case wtq => exact wtA))
  refine awl_hw wtA (st_alloc T0 rfl rfl rfl rfl scA ?_)
  intro g9
  repeat (first | refine awp_seq ?_ | ((first | (show AWL _ _ _ (⟨_, .assign _, _, _, _, _⟩ :: _) _ _ _; refine awl_pw ?wtq (pv_assign rfl rfl) rfl rfl ?_)); case wtq => exact wtA) | (show AWL _ _ _ (⟨_, .store _ _ _, _, _, _, _⟩ :: _) _ _ _; refine awl_hw wtA (st_store T0 rfl rfl rfl rfl rfl (by first | assumption | (simp only [cellsA]; rfl)) rfl rfl rfl rcA rcA trivial ?_)) | refine awl_nil ?_)
  refine awp_cut _ (awp_weak ssA rcA (lp_12 (g2 := g2) (b := b) (cp := false) (cc := false) (m := m) (w := w) (u5 := .t (intsT true Y)) (u6 := intA 0) (u9 := .v (ptrV g9)) (rest := [.cl g9 25 [intA m.ex, .t (housT true (outM m Y).hou), .t (consT false m.con)]]) hv hw hb2 hb rfl)) ?_
  rintro s h ⟨g11, rfl, rfl⟩
  cases hB : lvB m (bitsL b m.hou.length)
  · rw [asked_no hfB hB] at hSB
    generalize bitsL b m.hou.length = B at *
    replace hSB : PCall Try.prog 29 [mktA true true (outM m B)] (fun r => r = .tup [.ag [intA 0, intA 0], intA 9]) := hSB
    repeat (first | refine awp_seq ?_ | refine awp_region_lit rfl ?_ | ((first | (show AWL _ _ _ (⟨_, .load _ _, _, _, _, _⟩ :: _) _ _ _; refine awl_lw ?wtq (lv_cla T0 rfl rfl rfl rcA rfl) rfl rfl rfl ?_)); case wtq => exact wtA))
    refine awl_hw wtA (st_call T0 (hMY) rfl rfl rfl rfl (by first | exact callee_lit | exact callee_v | exact callee_fn | assumption) rcA raA rfl ?_)
    rintro _ rfl
    skip
    refine awl_hw wtA (st_call T0 (hSY) rfl rfl rfl rfl (by first | exact callee_lit | exact callee_v | exact callee_fn | assumption) rcA raA rfl ?_)
    rintro _ rfl
    repeat (first | ((first | (show AWL _ _ _ (⟨_, .move _, _, _, _, _⟩ :: _) _ _ _; refine awl_pw ?wtq (pv_move rfl rfl) rfl rfl ?_) | (show AWL _ _ _ (⟨_, .extract _ _, _, _, _, _⟩ :: _) _ _ _; refine awl_pw ?wtq (pv_extract rfl rfl rfl) rfl rfl ?_)); case wtq => exact wtA))
    refine awl_hw wtA (st_alloc T0 rfl rfl rfl rfl scA ?_)
    intro g13
    repeat (first | refine awp_seq ?_ | refine awp_region_lit rfl ?_ | ((first | (show AWL _ _ _ (⟨_, .assign _, _, _, _, _⟩ :: _) _ _ _; refine awl_pw ?wtq (pv_assign rfl rfl) rfl rfl ?_) | (show AWL _ _ _ (⟨_, .load _ _, _, _, _, _⟩ :: _) _ _ _; refine awl_lw ?wtq (lv_cla T0 rfl rfl rfl rcA rfl) rfl rfl rfl ?_)); case wtq => exact wtA) | (show AWL _ _ _ (⟨_, .store _ _ _, _, _, _, _⟩ :: _) _ _ _; refine awl_hw wtA (st_store T0 rfl rfl rfl rfl rfl (by first | assumption | (simp only [cellsA]; rfl)) rfl rfl rfl rcA rcA trivial ?_)) | refine awl_nil ?_)
    refine awl_hw wtA (st_call T0 (hMB) rfl rfl rfl rfl (by first | exact callee_lit | exact callee_v | exact callee_fn | assumption) rcA raA rfl ?_)
    rintro _ rfl
    skip
    refine awl_hw wtA (st_call T0 (hSB) rfl rfl rfl rfl (by first | exact callee_lit | exact callee_v | exact callee_fn | assumption) rcA raA rfl ?_)
    rintro _ rfl
    repeat (first | ((first | (show AWL _ _ _ (⟨_, .move _, _, _, _, _⟩ :: _) _ _ _; refine awl_pw ?wtq (pv_move rfl rfl) rfl rfl ?_) | (show AWL _ _ _ (⟨_, .extract _ _, _, _, _, _⟩ :: _) _ _ _; refine awl_pw ?wtq (pv_extract rfl rfl rfl) rfl rfl ?_)); case wtq => exact wtA))
    refine awl_hw wtA (st_alloc T0 rfl rfl rfl rfl scA ?_)
    intro g15
    repeat (first | refine awp_seq ?_ | refine awp_region_lit rfl ?_ | ((first | (show AWL _ _ _ (⟨_, .move _, _, _, _, _⟩ :: _) _ _ _; refine awl_pw ?wtq (pv_move rfl rfl) rfl rfl ?_) | (show AWL _ _ _ (⟨_, .assign _, _, _, _, _⟩ :: _) _ _ _; refine awl_pw ?wtq (pv_assign rfl rfl) rfl rfl ?_) | (show AWL _ _ _ (⟨_, .binOp .eql _ _ _ _, _, _, _, _⟩ :: _) _ _ _; refine awl_pw ?wtq (pv_eql rfl rfl rfl) rfl rfl ?_) | (show AWL _ _ _ (⟨_, .pick _ _ _, _, _, _, _⟩ :: _) _ _ _; refine awl_pw ?wtq (pv_pick_t rfl rfl tfA rfl) rfl rfl ?_)); case wtq => exact wtA) | (show AWL _ _ _ (⟨_, .store _ _ _, _, _, _, _⟩ :: _) _ _ _; refine awl_hw wtA (st_store T0 rfl rfl rfl rfl rfl (by first | assumption | (simp only [cellsA]; rfl)) rfl rfl rfl rcA rcA trivial ?_)) | refine awl_sk (wf_some rfl rfl rfl rfl tfA) rfl rfl ?_ | refine awl_sku (wu_some rfl rfl rfl rfl) rfl rfl ?_ | refine awl_nil ?_)
    refine awl_hw wtA (st_call T0 (awake_p) rfl rfl rfl rfl (by first | exact callee_lit | exact callee_v | exact callee_fn | assumption) rcA raA rfl ?_)
    rintro _ rfl
    repeat (first | refine awp_ret ?_ | ((first | (show AWL _ _ _ (⟨_, .assign _, _, _, _, _⟩ :: _) _ _ _; refine awl_pw ?wtq (pv_assign rfl rfl) rfl rfl ?_) | (show AWL _ _ _ (⟨_, .pick _ _ _, _, _, _, _⟩ :: _) _ _ _; refine awl_pw ?wtq (pv_pick_t rfl rfl tfA rfl) rfl rfl ?_)); case wtq => exact wtA) | refine awl_nil ?_)
    exact body_p (.cons rfl .nil) rfl
  · rw [asked_yes hfB hB] at hSB
    have hns := hmin hB
    generalize lowN (outM m (bitsL b m.hou.length)) = L2 at *
    generalize highN (outM m (bitsL b m.hou.length)) = H2 at *
    generalize bitsL b m.hou.length = B at *
    have hsf : shortB B Y = false := by
      cases c : shortB B Y
      · rfl
      · exact absurd (shortB_iff.1 c) hns
    have hSq := shorter_q (cp := true) (cp' := true) (a := B) (c := Y) (r := false) (by omega) (by omega) hsf
    replace hSB : PCall Try.prog 29 [mktA true true (outM m B)] (fun r => r = .tup [.ag [intA L2, intA H2], intA 0]) := hSB
    repeat (first | refine awp_seq ?_ | refine awp_region_lit rfl ?_ | ((first | (show AWL _ _ _ (⟨_, .load _ _, _, _, _, _⟩ :: _) _ _ _; refine awl_lw ?wtq (lv_cla T0 rfl rfl rfl rcA rfl) rfl rfl rfl ?_)); case wtq => exact wtA))
    refine awl_hw wtA (st_call T0 (hMY) rfl rfl rfl rfl (by first | exact callee_lit | exact callee_v | exact callee_fn | assumption) rcA raA rfl ?_)
    rintro _ rfl
    skip
    refine awl_hw wtA (st_call T0 (hSY) rfl rfl rfl rfl (by first | exact callee_lit | exact callee_v | exact callee_fn | assumption) rcA raA rfl ?_)
    rintro _ rfl
    repeat (first | ((first | (show AWL _ _ _ (⟨_, .move _, _, _, _, _⟩ :: _) _ _ _; refine awl_pw ?wtq (pv_move rfl rfl) rfl rfl ?_) | (show AWL _ _ _ (⟨_, .extract _ _, _, _, _, _⟩ :: _) _ _ _; refine awl_pw ?wtq (pv_extract rfl rfl rfl) rfl rfl ?_)); case wtq => exact wtA))
    refine awl_hw wtA (st_alloc T0 rfl rfl rfl rfl scA ?_)
    intro g13
    repeat (first | refine awp_seq ?_ | refine awp_region_lit rfl ?_ | ((first | (show AWL _ _ _ (⟨_, .assign _, _, _, _, _⟩ :: _) _ _ _; refine awl_pw ?wtq (pv_assign rfl rfl) rfl rfl ?_) | (show AWL _ _ _ (⟨_, .load _ _, _, _, _, _⟩ :: _) _ _ _; refine awl_lw ?wtq (lv_cla T0 rfl rfl rfl rcA rfl) rfl rfl rfl ?_)); case wtq => exact wtA) | (show AWL _ _ _ (⟨_, .store _ _ _, _, _, _, _⟩ :: _) _ _ _; refine awl_hw wtA (st_store T0 rfl rfl rfl rfl rfl (by first | assumption | (simp only [cellsA]; rfl)) rfl rfl rfl rcA rcA trivial ?_)) | refine awl_nil ?_)
    refine awl_hw wtA (st_call T0 (hMB) rfl rfl rfl rfl (by first | exact callee_lit | exact callee_v | exact callee_fn | assumption) rcA raA rfl ?_)
    rintro _ rfl
    skip
    refine awl_hw wtA (st_call T0 (hSB) rfl rfl rfl rfl (by first | exact callee_lit | exact callee_v | exact callee_fn | assumption) rcA raA rfl ?_)
    rintro _ rfl
    repeat (first | ((first | (show AWL _ _ _ (⟨_, .move _, _, _, _, _⟩ :: _) _ _ _; refine awl_pw ?wtq (pv_move rfl rfl) rfl rfl ?_) | (show AWL _ _ _ (⟨_, .extract _ _, _, _, _, _⟩ :: _) _ _ _; refine awl_pw ?wtq (pv_extract rfl rfl rfl) rfl rfl ?_)); case wtq => exact wtA))
    refine awl_hw wtA (st_alloc T0 rfl rfl rfl rfl scA ?_)
    intro g15
    repeat (first | refine awp_seq ?_ | refine awp_region_lit rfl ?_ | ((first | (show AWL _ _ _ (⟨_, .move _, _, _, _, _⟩ :: _) _ _ _; refine awl_pw ?wtq (pv_move rfl rfl) rfl rfl ?_) | (show AWL _ _ _ (⟨_, .assign _, _, _, _, _⟩ :: _) _ _ _; refine awl_pw ?wtq (pv_assign rfl rfl) rfl rfl ?_) | (show AWL _ _ _ (⟨_, .binOp .eql _ _ _ _, _, _, _, _⟩ :: _) _ _ _; refine awl_pw ?wtq (pv_eql rfl rfl rfl) rfl rfl ?_) | (show AWL _ _ _ (⟨_, .pick _ _ _, _, _, _, _⟩ :: _) _ _ _; refine awl_pw ?wtq (pv_pick_t rfl rfl tfA rfl) rfl rfl ?_)); case wtq => exact wtA) | (show AWL _ _ _ (⟨_, .store _ _ _, _, _, _, _⟩ :: _) _ _ _; refine awl_hw wtA (st_store T0 rfl rfl rfl rfl rfl (by first | assumption | (simp only [cellsA]; rfl)) rfl rfl rfl rcA rcA trivial ?_)) | refine awl_nil ?_)
    refine awl_hw wtA (st_call T0 (hSq) rfl rfl rfl rfl (by first | exact callee_lit | exact callee_v | exact callee_fn | assumption) rcA raA rfl ?_)
    rintro _ rfl
    repeat (first | ((first | (show AWL _ _ _ (⟨_, .move _, _, _, _, _⟩ :: _) _ _ _; refine awl_pw ?wtq (pv_move rfl rfl) rfl rfl ?_) | (show AWL _ _ _ (⟨_, .unOp .not _ _, _, _, _, _⟩ :: _) _ _ _; refine awl_pw ?wtq (pv_not rfl rfl) rfl rfl ?_) | (show AWL _ _ _ (⟨_, .pick _ _ _, _, _, _, _⟩ :: _) _ _ _; refine awl_pw ?wtq (pv_pick_t rfl rfl tfA rfl) rfl rfl ?_) | (show AWL _ _ _ (⟨_, .pick _ _ _, _, _, _, _⟩ :: _) _ _ _; refine awl_pw ?wtq (pv_pick_f rfl rfl tfA rfl) rfl rfl ?_)); case wtq => exact wtA))
    refine awl_hw wtA (st_call T0 (awake_p) rfl rfl rfl rfl (by first | exact callee_lit | exact callee_v | exact callee_fn | assumption) rcA raA rfl ?_)
    rintro _ rfl
    repeat (first | refine awp_ret ?_ | ((first | (show AWL _ _ _ (⟨_, .assign _, _, _, _, _⟩ :: _) _ _ _; refine awl_pw ?wtq (pv_assign rfl rfl) rfl rfl ?_) | (show AWL _ _ _ (⟨_, .pick _ _ _, _, _, _, _⟩ :: _) _ _ _; refine awl_pw ?wtq (pv_pick_t rfl rfl tfA rfl) rfl rfl ?_)); case wtq => exact wtA) | refine awl_nil ?_)
    exact body_p (.cons rfl .nil) rfl
end Go.Proofs.Ytallicfckbdeaaa
