/- The law CornerSmallest (Try.func12): walk. -/
import Derived.Test.YtallicfckbdeaaaLp
import Derived.Test.YtallicfckbdeaaaLt0
import Derived.Test.YtallicfckbdeaaaGTy
import Derived.Test.YtallicfckbdeaaaGTs
import Derived.Test.YtallicfckbdeaaaGPa
namespace Go.Proofs.Ytallicfckbdeaaa
open Go Go.RowKit Go.Tl
set_option linter.unusedVariables false
set_option linter.unusedSimpArgs false
set_option maxRecDepth 100000
set_option maxHeartbeats 4000000
attribute [local irreducible] AWP AWL AOp PV LV AWT AWE
section
variable {g3 g11 k n b : Nat} {Y : List Int} {cp cc cp' : Bool} {m x : MktD} {w : Int} {u1 u2 u8 u9 u7 u12 u13 u11 : AV} {rest : List Ent}
theorem lt_8 (hk : k < Y.length) (hY : Ext m.hou.length Y 0) (hs : sellB m (Y.getD k 0).toNat = true) (hl : m.hou.length ≤ 6) (hYl : Y.length ≤ 6) {ops : Array Oper} (h : regF Try.f12 8 = some ops) :
    AWP Try.prog Try.f12.ntmps none (.region 8 ops true) (cutQ (fun s h => s = [(87, boolA false), (1, u1), (2, u2), (3, .v (ptrV g3)), (7, .t (intsT true Y)), (8, u8), (9, u9), (10, intA k)] ∧ h = [.cl g3 25 [intA m.ex, .t (housT cp m.hou), .t (consT cc m.con)]]))
      [(1, u1), (2, u2), (3, .v (ptrV g3)), (7, .t (intsT true Y)), (8, u8), (9, u9), (10, intA k)] [.cl g3 25 [intA m.ex, .t (housT cp m.hou), .t (consT cc m.con)]] := by
  cases h
  have hx := (ext_iff.1 hY).1 _ (getD_mem (d := (0 : Int)) hk)
  have c1 := in_q (n := Y.getD k 0) (lo := 0) (hi := (m.hou.length : Int) - 1) (r := true) (inB_iff.2 (by omega))
  obtain ⟨j, hj⟩ : ∃ j, (Y.getD k 0).toNat = j := ⟨_, rfl⟩
  rw [hj] at hs
  have hs' : (m.hou.getD j default).sells = true := hs
  have hs2 : (!(m.hou.getD j default).sells) = false := by rw [hs']; rfl
  by_cases h0 : 0 < k
  · have d1 : decide ((0 : Int) < (k : Int)) = true := decide_eq_true (by omega)
    have hlt := asc_at (ext_iff.1 hY).2 (show k - 1 < k by omega) hk
    have d2 : decide (Y.getD k 0 ≤ Y.getD (k - 1) 0) = false := decide_eq_false (by omega)
    have hk1 : ((k : Int) - 1).toNat = k - 1 := by omega
    refine awp_par T0 (l := (0 :: 1 :: 2 :: 3 :: 4 :: 5 :: 6 :: 7 :: 8 :: 9 :: 10 :: 11 :: 12 :: 13 :: 14 :: 15 :: 16 :: 17 :: 18 :: 19 :: 20 :: 21 :: 22 :: 23 :: 24 :: 25 :: 26 :: 27 :: 28 :: 29 :: 30 :: 31 :: 32 :: 33 :: 34 :: 35 :: 36 :: 37 :: [])) rfl (by kernel_rfl) (by kernel_rfl) ?_
    apply parW_op (ds := [7]) rfl rfl rfl rfl (by kernel_rfl)
    · exact .inl ⟨(wt_none rfl), stepQ_pv (pv_move rfl rfl) rfl rfl⟩
    apply parW_op (ds := [10]) rfl rfl rfl rfl (by kernel_rfl)
    · exact .inl ⟨(wt_none rfl), stepQ_pv (pv_move rfl rfl) rfl rfl⟩
    apply parW_op (ds := [50, 51]) rfl rfl rfl rfl (by kernel_rfl)
    · exact .inl ⟨(wt_none rfl), stepQ_pv (pv_ix_t T0 rfl rfl rfl rfl (by omega) ixA) rfl rfl⟩
    apply parW_op (ds := [52]) rfl rfl rfl rfl (by kernel_rfl)
    · exact .inl ⟨(wt_none rfl), stepQ_lv (lv_elt_sc T0 rfl rfl rfl rfl) rfl rfl⟩
    apply parW_op (ds := [3]) rfl rfl rfl rfl (by kernel_rfl)
    · exact .inl ⟨(wt_none rfl), stepQ_pv (pv_fa T0 rfl rfl rfl (by simp; rfl)) rfl rfl⟩
    apply parW_op (ds := [54]) rfl rfl rfl rfl (by kernel_rfl)
    · exact .inl ⟨(wt_none rfl), stepQ_lv (lv_cl1 T0 rfl rfl rfl rcA raA) rfl rfl⟩
    apply parW_op (ds := [55]) rfl rfl rfl rfl (by kernel_rfl)
    · exact .inl ⟨(wt_none rfl), stepQ_pv (pv_len_t T0 rfl rfl rfl) rfl rfl⟩
    apply parW_op (ds := [56]) rfl rfl rfl rfl (by kernel_rfl)
    · exact .inl ⟨(wt_none rfl), stepQ_pv (pv_sub rfl rfl rfl (by first | assumption | exact wr64 (by omega))) rfl rfl⟩
    apply parW_op (ds := [53, 57]) rfl rfl rfl rfl (by kernel_rfl)
    · refine .inl ⟨(wt_none rfl), ?_⟩
      refine st_call T0 (c1) rfl rfl rfl rfl (by first | exact callee_lit | exact callee_v | exact callee_fn | assumption) rcA raA rfl ?_
      rintro _ rfl
      exact ⟨_, Ghost.refl, rfl⟩
    apply parW_op (ds := [58]) rfl rfl rfl rfl (by kernel_rfl)
    · exact .inl ⟨(wt_none rfl), stepQ_pv (pv_not rfl rfl) rfl rfl⟩
    apply parW_op (ds := [59]) rfl rfl rfl rfl (by kernel_rfl)
    · exact .inl ⟨(wt_none rfl), stepQ_pv (pv_move rfl rfl) rfl rfl⟩
    apply parW_op (ds := [3, 60]) rfl rfl rfl rfl (by kernel_rfl)
    · exact .inl ⟨wtS, stepQ_pv (pv_fa T0 rfl rfl rfl (by simp; rfl)) rfl rfl⟩
    apply parW_op (ds := [61, 60]) rfl rfl rfl rfl (by kernel_rfl)
    · exact .inl ⟨wtS, stepQ_lv (lv_cl1 T0 rfl rfl rfl rcA raA) rfl rfl⟩
    apply parW_op (ds := [7, 60]) rfl rfl rfl rfl (by kernel_rfl)
    · exact .inl ⟨wtS, stepQ_pv (pv_move rfl rfl) rfl rfl⟩
    apply parW_op (ds := [10, 60]) rfl rfl rfl rfl (by kernel_rfl)
    · exact .inl ⟨wtS, stepQ_pv (pv_move rfl rfl) rfl rfl⟩
    apply parW_op (ds := [63, 64, 60]) rfl rfl rfl rfl (by kernel_rfl)
    · exact .inl ⟨wtS, stepQ_pv (pv_ix_t T0 rfl rfl rfl rfl (by omega) ixA) rfl rfl⟩
    apply parW_op (ds := [65, 60]) rfl rfl rfl rfl (by kernel_rfl)
    · exact .inl ⟨wtS, stepQ_lv (lv_elt_sc T0 rfl rfl rfl rfl) rfl rfl⟩
    apply parW_op (ds := [62, 66, 60]) rfl rfl rfl rfl (by kernel_rfl)
    · exact .inl ⟨wtS, stepQ_pv (pv_ix_t T0 rfl rfl rfl rfl (by omega) hj) rfl rfl⟩
    apply parW_op (ds := [67, 60]) rfl rfl rfl rfl (by kernel_rfl)
    · exact .inl ⟨wtS, stepQ_pv (pv_fa_elt T0 rfl rfl rfl (by simp; rfl)) rfl rfl⟩
    apply parW_op (ds := [68, 60]) rfl rfl rfl rfl (by kernel_rfl)
    · exact .inl ⟨wtS, stepQ_lv (lv_elt_sc T0 rfl rfl rfl rfl) rfl rfl⟩
    apply parW_op (ds := [69, 60]) rfl rfl rfl rfl (by kernel_rfl)
    · exact .inl ⟨wtS, stepQ_pv (pv_not rfl rfl) rfl rfl⟩
    apply parW_op (ds := [60, 70]) rfl rfl rfl rfl (by kernel_rfl)
    · exact .inl ⟨(wt_none rfl), stepQ_pv (pv_pick_f rfl rfl tfA rfl) rfl rfl⟩
    apply parW_op (ds := [71]) rfl rfl rfl rfl (by kernel_rfl)
    · exact .inl ⟨(wt_none rfl), stepQ_pv (pv_move rfl rfl) rfl rfl⟩
    apply parW_op (ds := [10, 72]) rfl rfl rfl rfl (by kernel_rfl)
    · exact .inl ⟨wtS, stepQ_pv (pv_move rfl rfl) rfl rfl⟩
    apply parW_op (ds := [73, 72]) rfl rfl rfl rfl (by kernel_rfl)
    · exact .inl ⟨wtS, stepQ_pv (pv_gtr rfl rfl rfl) rfl rfl⟩
    apply parW_op (ds := [74, 72]) rfl rfl rfl rfl (by kernel_rfl)
    · exact .inl ⟨wtS, stepQ_pv (pv_move rfl rfl) rfl rfl⟩
    apply parW_op (ds := [7, 75]) rfl rfl rfl rfl (by kernel_rfl)
    · exact .inl ⟨wtS, stepQ_pv (pv_move rfl rfl) rfl rfl⟩
    apply parW_op (ds := [10, 75]) rfl rfl rfl rfl (by kernel_rfl)
    · exact .inl ⟨wtS, stepQ_pv (pv_move rfl rfl) rfl rfl⟩
    apply parW_op (ds := [76, 77, 75]) rfl rfl rfl rfl (by kernel_rfl)
    · exact .inl ⟨wtS, stepQ_pv (pv_ix_t T0 rfl rfl rfl rfl (by omega) ixA) rfl rfl⟩
    apply parW_op (ds := [78, 75]) rfl rfl rfl rfl (by kernel_rfl)
    · exact .inl ⟨wtS, stepQ_lv (lv_elt_sc T0 rfl rfl rfl rfl) rfl rfl⟩
    apply parW_op (ds := [7, 75]) rfl rfl rfl rfl (by kernel_rfl)
    · exact .inl ⟨wtS, stepQ_pv (pv_move rfl rfl) rfl rfl⟩
    apply parW_op (ds := [10, 75]) rfl rfl rfl rfl (by kernel_rfl)
    · exact .inl ⟨wtS, stepQ_pv (pv_move rfl rfl) rfl rfl⟩
    apply parW_op (ds := [81, 75]) rfl rfl rfl rfl (by kernel_rfl)
    · exact .inl ⟨wtS, stepQ_pv (pv_sub rfl rfl rfl (by first | assumption | exact wr64 (by omega))) rfl rfl⟩
    apply parW_op (ds := [80, 82, 75]) rfl rfl rfl rfl (by kernel_rfl)
    · exact .inl ⟨wtS, stepQ_pv (pv_ix_t T0 rfl rfl rfl rfl (by omega) hk1) rfl rfl⟩
    apply parW_op (ds := [83, 75]) rfl rfl rfl rfl (by kernel_rfl)
    · exact .inl ⟨wtS, stepQ_lv (lv_elt_sc T0 rfl rfl rfl rfl) rfl rfl⟩
    apply parW_op (ds := [79, 84, 75]) rfl rfl rfl rfl (by kernel_rfl)
    · exact .inl ⟨wtS, stepQ_pv (pv_leq rfl rfl rfl) rfl rfl⟩
    apply parW_op (ds := [75, 85, 72]) rfl rfl rfl rfl (by kernel_rfl)
    · exact .inl ⟨wtS, stepQ_pv (pv_pick_t rfl rfl tfA rfl) rfl rfl⟩
    apply parW_op (ds := [72, 86]) rfl rfl rfl rfl (by kernel_rfl)
    · exact .inl ⟨(wt_none rfl), stepQ_pv (pv_pick_f rfl rfl tfA rfl) rfl rfl⟩
    refine parW_nil ?_
    rw [d2]
    exact cut_n ⟨rfl, rfl⟩ ssA rcA
  · have d1 : decide ((0 : Int) < (k : Int)) = false := decide_eq_false (by omega)
    refine awp_par T0 (l := (0 :: 1 :: 2 :: 3 :: 4 :: 5 :: 6 :: 7 :: 8 :: 9 :: 10 :: 11 :: 12 :: 13 :: 14 :: 15 :: 16 :: 17 :: 18 :: 19 :: 20 :: 21 :: 22 :: 23 :: 24 :: 25 :: 26 :: 27 :: 28 :: 29 :: 30 :: 31 :: 32 :: 33 :: 34 :: 35 :: 36 :: 37 :: [])) rfl (by kernel_rfl) (by kernel_rfl) ?_
    apply parW_op (ds := [7]) rfl rfl rfl rfl (by kernel_rfl)
    · exact .inl ⟨(wt_none rfl), stepQ_pv (pv_move rfl rfl) rfl rfl⟩
    apply parW_op (ds := [10]) rfl rfl rfl rfl (by kernel_rfl)
    · exact .inl ⟨(wt_none rfl), stepQ_pv (pv_move rfl rfl) rfl rfl⟩
    apply parW_op (ds := [50, 51]) rfl rfl rfl rfl (by kernel_rfl)
    · exact .inl ⟨(wt_none rfl), stepQ_pv (pv_ix_t T0 rfl rfl rfl rfl (by omega) ixA) rfl rfl⟩
    apply parW_op (ds := [52]) rfl rfl rfl rfl (by kernel_rfl)
    · exact .inl ⟨(wt_none rfl), stepQ_lv (lv_elt_sc T0 rfl rfl rfl rfl) rfl rfl⟩
    apply parW_op (ds := [3]) rfl rfl rfl rfl (by kernel_rfl)
    · exact .inl ⟨(wt_none rfl), stepQ_pv (pv_fa T0 rfl rfl rfl (by simp; rfl)) rfl rfl⟩
    apply parW_op (ds := [54]) rfl rfl rfl rfl (by kernel_rfl)
    · exact .inl ⟨(wt_none rfl), stepQ_lv (lv_cl1 T0 rfl rfl rfl rcA raA) rfl rfl⟩
    apply parW_op (ds := [55]) rfl rfl rfl rfl (by kernel_rfl)
    · exact .inl ⟨(wt_none rfl), stepQ_pv (pv_len_t T0 rfl rfl rfl) rfl rfl⟩
    apply parW_op (ds := [56]) rfl rfl rfl rfl (by kernel_rfl)
    · exact .inl ⟨(wt_none rfl), stepQ_pv (pv_sub rfl rfl rfl (by first | assumption | exact wr64 (by omega))) rfl rfl⟩
    apply parW_op (ds := [53, 57]) rfl rfl rfl rfl (by kernel_rfl)
    · refine .inl ⟨(wt_none rfl), ?_⟩
      refine st_call T0 (c1) rfl rfl rfl rfl (by first | exact callee_lit | exact callee_v | exact callee_fn | assumption) rcA raA rfl ?_
      rintro _ rfl
      exact ⟨_, Ghost.refl, rfl⟩
    apply parW_op (ds := [58]) rfl rfl rfl rfl (by kernel_rfl)
    · exact .inl ⟨(wt_none rfl), stepQ_pv (pv_not rfl rfl) rfl rfl⟩
    apply parW_op (ds := [59]) rfl rfl rfl rfl (by kernel_rfl)
    · exact .inl ⟨(wt_none rfl), stepQ_pv (pv_move rfl rfl) rfl rfl⟩
    apply parW_op (ds := [3, 60]) rfl rfl rfl rfl (by kernel_rfl)
    · exact .inl ⟨wtS, stepQ_pv (pv_fa T0 rfl rfl rfl (by simp; rfl)) rfl rfl⟩
    apply parW_op (ds := [61, 60]) rfl rfl rfl rfl (by kernel_rfl)
    · exact .inl ⟨wtS, stepQ_lv (lv_cl1 T0 rfl rfl rfl rcA raA) rfl rfl⟩
    apply parW_op (ds := [7, 60]) rfl rfl rfl rfl (by kernel_rfl)
    · exact .inl ⟨wtS, stepQ_pv (pv_move rfl rfl) rfl rfl⟩
    apply parW_op (ds := [10, 60]) rfl rfl rfl rfl (by kernel_rfl)
    · exact .inl ⟨wtS, stepQ_pv (pv_move rfl rfl) rfl rfl⟩
    apply parW_op (ds := [63, 64, 60]) rfl rfl rfl rfl (by kernel_rfl)
    · exact .inl ⟨wtS, stepQ_pv (pv_ix_t T0 rfl rfl rfl rfl (by omega) ixA) rfl rfl⟩
    apply parW_op (ds := [65, 60]) rfl rfl rfl rfl (by kernel_rfl)
    · exact .inl ⟨wtS, stepQ_lv (lv_elt_sc T0 rfl rfl rfl rfl) rfl rfl⟩
    apply parW_op (ds := [62, 66, 60]) rfl rfl rfl rfl (by kernel_rfl)
    · exact .inl ⟨wtS, stepQ_pv (pv_ix_t T0 rfl rfl rfl rfl (by omega) hj) rfl rfl⟩
    apply parW_op (ds := [67, 60]) rfl rfl rfl rfl (by kernel_rfl)
    · exact .inl ⟨wtS, stepQ_pv (pv_fa_elt T0 rfl rfl rfl (by simp; rfl)) rfl rfl⟩
    apply parW_op (ds := [68, 60]) rfl rfl rfl rfl (by kernel_rfl)
    · exact .inl ⟨wtS, stepQ_lv (lv_elt_sc T0 rfl rfl rfl rfl) rfl rfl⟩
    apply parW_op (ds := [69, 60]) rfl rfl rfl rfl (by kernel_rfl)
    · exact .inl ⟨wtS, stepQ_pv (pv_not rfl rfl) rfl rfl⟩
    apply parW_op (ds := [60, 70]) rfl rfl rfl rfl (by kernel_rfl)
    · exact .inl ⟨(wt_none rfl), stepQ_pv (pv_pick_f rfl rfl tfA rfl) rfl rfl⟩
    apply parW_op (ds := [71]) rfl rfl rfl rfl (by kernel_rfl)
    · exact .inl ⟨(wt_none rfl), stepQ_pv (pv_move rfl rfl) rfl rfl⟩
    apply parW_op (ds := [10, 72]) rfl rfl rfl rfl (by kernel_rfl)
    · exact .inl ⟨wtS, stepQ_pv (pv_move rfl rfl) rfl rfl⟩
    apply parW_op (ds := [73, 72]) rfl rfl rfl rfl (by kernel_rfl)
    · exact .inl ⟨wtS, stepQ_pv (pv_gtr rfl rfl rfl) rfl rfl⟩
    apply parW_op (ds := [74, 72]) rfl rfl rfl rfl (by kernel_rfl)
    · exact .inl ⟨wtS, stepQ_pv (pv_move rfl rfl) rfl rfl⟩
    apply parW_op (ds := [7, 75]) rfl rfl rfl rfl (by kernel_rfl)
    · exact .inr ⟨(wf_some rfl rfl rfl rfl tfA), rfl⟩
    apply parW_op (ds := [10, 75]) rfl rfl rfl rfl (by kernel_rfl)
    · exact .inr ⟨(wf_some rfl rfl rfl rfl tfA), rfl⟩
    apply parW_op (ds := [76, 77, 75]) rfl rfl rfl rfl (by kernel_rfl)
    · exact .inr ⟨(wf_some rfl rfl rfl rfl tfA), rfl⟩
    apply parW_op (ds := [78, 75]) rfl rfl rfl rfl (by kernel_rfl)
    · exact .inr ⟨(wf_some rfl rfl rfl rfl tfA), rfl⟩
    apply parW_op (ds := [7, 75]) rfl rfl rfl rfl (by kernel_rfl)
    · exact .inr ⟨(wf_some rfl rfl rfl rfl tfA), rfl⟩
    apply parW_op (ds := [10, 75]) rfl rfl rfl rfl (by kernel_rfl)
    · exact .inr ⟨(wf_some rfl rfl rfl rfl tfA), rfl⟩
    apply parW_op (ds := [81, 75]) rfl rfl rfl rfl (by kernel_rfl)
    · exact .inr ⟨(wf_some rfl rfl rfl rfl tfA), rfl⟩
    apply parW_op (ds := [80, 82, 75]) rfl rfl rfl rfl (by kernel_rfl)
    · exact .inr ⟨(wf_some rfl rfl rfl rfl tfA), rfl⟩
    apply parW_op (ds := [83, 75]) rfl rfl rfl rfl (by kernel_rfl)
    · exact .inr ⟨(wf_some rfl rfl rfl rfl tfA), rfl⟩
    apply parW_op (ds := [79, 84, 75]) rfl rfl rfl rfl (by kernel_rfl)
    · exact .inr ⟨(wf_some rfl rfl rfl rfl tfA), rfl⟩
    apply parW_op (ds := [75, 85, 72]) rfl rfl rfl rfl (by kernel_rfl)
    · exact .inl ⟨wtS, stepQ_pv (pv_pick_f rfl rfl tfA rfl) rfl rfl⟩
    apply parW_op (ds := [72, 86]) rfl rfl rfl rfl (by kernel_rfl)
    · exact .inl ⟨(wt_none rfl), stepQ_pv (pv_pick_f rfl rfl tfA rfl) rfl rfl⟩
    refine parW_nil ?_
    exact cut_n ⟨rfl, rfl⟩ ssA rcA
theorem lt_12 (hvx : VMkt x) (hw : 0 ≤ w ∧ w ≤ 255) (hn : x.hou.length = m.hou.length) (hb : b < m.hou.length) (hwb : w.tmod (m.hou.length : Int) = (b : Int)) {ops : Array Oper} (h : regF Try.f12 12 = some ops) :
    AWP Try.prog Try.f12.ntmps none (.region 12 ops true) (cutQ (fun s h => ∃ g14, s = [(14, .v (ptrV g14)), (15, .t (intsT true (bitsL (2 ^ b) x.hou.length))), (16, boolA (sellK x (2 ^ b) x.hou.length)), (1, u1), (3, .v (ptrV g3)), (7, u7), (8, u8), (11, .v (ptrV g11))] ∧ h = .cl g14 25 [intA x.ex, .t (housT true (keepM x (bitsL (2 ^ b) x.hou.length)).hou), .t (consT cc x.con)] :: .cl g11 25 [intA x.ex, .t (housT cp' x.hou), .t (consT cc x.con)] :: .cl g3 25 [intA m.ex, .t (housT cp m.hou), .t (consT cc m.con)] :: rest))
      [(1, u1), (2, .v (.int .u8 w)), (3, .v (ptrV g3)), (7, u7), (8, u8), (11, .v (ptrV g11))] (.cl g11 25 [intA x.ex, .t (housT cp' x.hou), .t (consT cc x.con)] :: .cl g3 25 [intA m.ex, .t (housT cp m.hou), .t (consT cc m.con)] :: rest) := by
  cases h
  have hlen := hvx.len
  have hp6 : 2 ^ b ≤ 2 ^ 6 := Nat.pow_le_pow_right (by omega) (by omega)
  have hsh : IntKind.i64.wrap (1 * 2 ^ (min ((b : Nat) : Int).toNat 64)) = ((2 ^ b : Nat) : Int) := shl_one rfl (by omega)
  have c1 := keeping_q cp' cc x (2 ^ b) hvx (by omega)
  generalize 2 ^ b = P at *
  refine awp_tree T0 [(0, 1), (1, 0), (2, 0), (3, 0), (4, 1), (5, 0), (6, 0), (7, 0), (8, 0), (9, 3), (10, 0), (11, 0), (12, 0), (13, 0), (14, 2), (15, 3), (16, 0), (17, 0)] (.op 0 1 (.op 1 0 (.op 2 0 (.op 3 0 (.op 4 1 (.op 5 0 (.op 6 0 (.op 7 0 (.op 8 0 (.fork 9 (.op 10 0 (.op 11 0 (.op 12 0 (.op 13 0 (.op 14 2 (.op 15 3 (.op 16 0 (.op 17 0 .stop)))))))) 14 (.op 9 3 (.op 10 0 (.op 11 0 (.op 12 0 (.op 13 0 (.op 15 3 (.op 16 0 (.op 17 0 .stop)))))))))))))))))) [.cl g11 _ _, .cl g3 _ _] rfl (by kernel_rfl) rcA ?_
  refine awt_lo rfl (wt_none rfl) (lv_cla T0 rfl rfl rfl rcA rfl) rfl rfl rfl ?_
  refine awt_po rfl (wt_none rfl) (pv_move rfl rfl) rfl rfl ?_
  refine awt_po rfl (wt_none rfl) (pv_convert rfl rfl Try.underlying5 Try.underlying3 (by first | assumption | exact wr64 (by omega))) rfl rfl ?_
  refine awt_po rfl (wt_none rfl) (pv_fa T0 rfl rfl rfl (by simp; rfl)) rfl rfl ?_
  refine awt_lo rfl (wt_none rfl) (lv_cl1 T0 rfl rfl rfl rcA raA) rfl rfl rfl ?_
  refine awt_po rfl (wt_none rfl) (pv_len_t T0 rfl rfl rfl) rfl rfl ?_
  refine awt_po rfl (wt_none rfl) (pv_rem rfl rfl rfl (by omega) (by first | assumption | rfl)) rfl rfl ?_
  refine awt_po rfl (wt_none rfl) (pv_convert rfl rfl Try.underlying3 Try.underlying92 (wu64 (by omega))) rfl rfl ?_
  refine awt_po rfl (wt_none rfl) (pv_shl rfl rfl rfl (by omega) hsh) rfl rfl ?_
  refine awt_fork ?_ ?_
  · skip
    refine awt_h (hm := []) rfl (wt_none rfl) rcA rfl (st_call T0 (c1) rfl rfl rfl rfl (by first | exact callee_lit | exact callee_v | exact callee_fn | assumption) rcA raA rfl ?_)
    rintro _ rfl
    refine awt_n1 rfl (wt_none rfl) (pv_move rfl rfl) rfl rfl rfl ?_
    refine awt_n1 rfl (wt_none rfl) (pv_extract rfl rfl rfl) rfl rfl rfl ?_
    refine awt_n1 rfl (wt_none rfl) (pv_extract rfl rfl rfl) rfl rfl rfl ?_
    refine awt_n1 rfl (wt_none rfl) (pv_extract rfl rfl rfl) rfl rfl rfl ?_
    refine awt_h (hm := []) rfl (wt_none rfl) rcA rfl (st_alloc T0 rfl rfl rfl rfl scA ?_)
    intro g14
    refine awt_s (md := fun _ => True) rfl (wt_none rfl) (st_store T0 rfl rfl rfl rfl rfl (by first | assumption | (simp only [cellsA]; rfl)) rfl rfl rfl rcA rcA trivial ?_)
    refine awe_p rfl (wt_none rfl) (pv_assign rfl rfl) rfl rfl ?_
    refine awe_p rfl (wt_none rfl) (pv_assign rfl rfl) rfl rfl ?_
    refine awe_end ?_
    exact cut_n ⟨_, rfl, rfl⟩ ssA (SubH.refl _)
  · skip
    refine awt_h (hm := []) rfl (wt_none rfl) rcA rfl (st_alloc T0 rfl rfl rfl rfl scA ?_)
    intro g14
    refine awt_s (md := fun _ => True) rfl (wt_none rfl) (st_call T0 (c1) rfl rfl rfl rfl (by first | exact callee_lit | exact callee_v | exact callee_fn | assumption) rcA raA rfl ?_)
    rintro _ rfl
    refine awe_p rfl (wt_none rfl) (pv_move rfl rfl) rfl rfl ?_
    refine awe_p rfl (wt_none rfl) (pv_extract rfl rfl rfl) rfl rfl ?_
    refine awe_p rfl (wt_none rfl) (pv_extract rfl rfl rfl) rfl rfl ?_
    refine awe_p rfl (wt_none rfl) (pv_extract rfl rfl rfl) rfl rfl ?_
    refine awe_s (md := fun _ => True) rfl (wt_none rfl) (st_store T0 rfl rfl rfl rfl rfl (by first | assumption | (simp only [cellsA]; rfl)) rfl rfl rfl rcA rcA trivial ?_)
    refine awe_p rfl (wt_none rfl) (pv_assign rfl rfl) rfl rfl ?_
    refine awe_p rfl (wt_none rfl) (pv_assign rfl rfl) rfl rfl ?_
    refine awe_end ?_
    exact cut_n ⟨_, rfl, rfl⟩ ssA (SubH.refl _)
theorem lt_13 (hv : VMkt m) (hw : 0 ≤ w ∧ w ≤ 255) (hb : b < 2 ^ m.hou.length) (hwb : w.tmod ((2 ^ m.hou.length : Nat) : Int) = (b : Int)) {ops : Array Oper} (h : regF Try.f12 13 = some ops) :
    AWP Try.prog Try.f12.ntmps none (.region 13 ops true) (cutQ (fun s h => ∃ g17, s = [(17, .v (ptrV g17)), (18, .t (intsT true (bitsL b m.hou.length))), (19, boolA (sellK m b m.hou.length)), (7, u7), (8, u8), (11, u11), (14, u12)] ∧ h = .cl g17 25 [intA m.ex, .t (housT true (keepM m (bitsL b m.hou.length)).hou), .t (consT cc m.con)] :: .cl g3 25 [intA m.ex, .t (housT cp m.hou), .t (consT cc m.con)] :: rest))
      [(1, .v (.int .u8 w)), (3, .v (ptrV g3)), (7, u7), (8, u8), (11, u11), (14, u12)] (.cl g3 25 [intA m.ex, .t (housT cp m.hou), .t (consT cc m.con)] :: rest) := by
  cases h
  have hlen := hv.len
  have hpu : 2 ^ m.hou.length ≤ 2 ^ 6 := Nat.pow_le_pow_right (by omega) hlen
  have hp1 : 1 ≤ 2 ^ m.hou.length := Nat.one_le_two_pow
  have hsh : IntKind.i64.wrap (1 * 2 ^ (min (m.hou.length : Int).toNat 64)) = ((2 ^ m.hou.length : Nat) : Int) := shl_one rfl (by omega)
  have c1 := keeping_q cp cc m b hv (by omega)
  generalize 2 ^ m.hou.length = P at *
  refine awp_tree T0 [(0, 1), (1, 0), (2, 0), (3, 0), (4, 1), (5, 0), (6, 0), (7, 0), (8, 0), (9, 3), (10, 0), (11, 0), (12, 0), (13, 0), (14, 2), (15, 3), (16, 0), (17, 0)] (.op 0 1 (.op 1 0 (.op 2 0 (.op 3 0 (.op 4 1 (.op 5 0 (.op 6 0 (.op 7 0 (.op 8 0 (.fork 9 (.op 10 0 (.op 11 0 (.op 12 0 (.op 13 0 (.op 14 2 (.op 15 3 (.op 16 0 (.op 17 0 .stop)))))))) 14 (.op 9 3 (.op 10 0 (.op 11 0 (.op 12 0 (.op 13 0 (.op 15 3 (.op 16 0 (.op 17 0 .stop)))))))))))))))))) [.cl g3 _ _] rfl (by kernel_rfl) rcA ?_
  refine awt_lo rfl (wt_none rfl) (lv_cla T0 rfl rfl rfl rcA rfl) rfl rfl rfl ?_
  refine awt_po rfl (wt_none rfl) (pv_move rfl rfl) rfl rfl ?_
  refine awt_po rfl (wt_none rfl) (pv_convert rfl rfl Try.underlying5 Try.underlying3 (by first | assumption | exact wr64 (by omega))) rfl rfl ?_
  refine awt_po rfl (wt_none rfl) (pv_fa T0 rfl rfl rfl (by simp; rfl)) rfl rfl ?_
  refine awt_lo rfl (wt_none rfl) (lv_cl1 T0 rfl rfl rfl rcA raA) rfl rfl rfl ?_
  refine awt_po rfl (wt_none rfl) (pv_len_t T0 rfl rfl rfl) rfl rfl ?_
  refine awt_po rfl (wt_none rfl) (pv_convert rfl rfl Try.underlying3 Try.underlying92 (wu64 (by omega))) rfl rfl ?_
  refine awt_po rfl (wt_none rfl) (pv_shl rfl rfl rfl (by omega) hsh) rfl rfl ?_
  refine awt_po rfl (wt_none rfl) (pv_rem rfl rfl rfl (by omega) (by first | assumption | rfl)) rfl rfl ?_
  refine awt_fork ?_ ?_
  · skip
    refine awt_h (hm := []) rfl (wt_none rfl) rcA rfl (st_call T0 (c1) rfl rfl rfl rfl (by first | exact callee_lit | exact callee_v | exact callee_fn | assumption) rcA raA rfl ?_)
    rintro _ rfl
    refine awt_n1 rfl (wt_none rfl) (pv_move rfl rfl) rfl rfl rfl ?_
    refine awt_n1 rfl (wt_none rfl) (pv_extract rfl rfl rfl) rfl rfl rfl ?_
    refine awt_n1 rfl (wt_none rfl) (pv_extract rfl rfl rfl) rfl rfl rfl ?_
    refine awt_n1 rfl (wt_none rfl) (pv_extract rfl rfl rfl) rfl rfl rfl ?_
    refine awt_h (hm := []) rfl (wt_none rfl) rcA rfl (st_alloc T0 rfl rfl rfl rfl scA ?_)
    intro g17
    refine awt_s (md := fun _ => True) rfl (wt_none rfl) (st_store T0 rfl rfl rfl rfl rfl (by first | assumption | (simp only [cellsA]; rfl)) rfl rfl rfl rcA rcA trivial ?_)
    refine awe_p rfl (wt_none rfl) (pv_assign rfl rfl) rfl rfl ?_
    refine awe_p rfl (wt_none rfl) (pv_assign rfl rfl) rfl rfl ?_
    refine awe_end ?_
    exact cut_n ⟨_, rfl, rfl⟩ ssA (SubH.refl _)
  · skip
    refine awt_h (hm := []) rfl (wt_none rfl) rcA rfl (st_alloc T0 rfl rfl rfl rfl scA ?_)
    intro g17
    refine awt_s (md := fun _ => True) rfl (wt_none rfl) (st_call T0 (c1) rfl rfl rfl rfl (by first | exact callee_lit | exact callee_v | exact callee_fn | assumption) rcA raA rfl ?_)
    rintro _ rfl
    refine awe_p rfl (wt_none rfl) (pv_move rfl rfl) rfl rfl ?_
    refine awe_p rfl (wt_none rfl) (pv_extract rfl rfl rfl) rfl rfl ?_
    refine awe_p rfl (wt_none rfl) (pv_extract rfl rfl rfl) rfl rfl ?_
    refine awe_p rfl (wt_none rfl) (pv_extract rfl rfl rfl) rfl rfl ?_
    refine awe_s (md := fun _ => True) rfl (wt_none rfl) (st_store T0 rfl rfl rfl rfl rfl (by first | assumption | (simp only [cellsA]; rfl)) rfl rfl rfl rcA rcA trivial ?_)
    refine awe_p rfl (wt_none rfl) (pv_assign rfl rfl) rfl rfl ?_
    refine awe_p rfl (wt_none rfl) (pv_assign rfl rfl) rfl rfl ?_
    refine awe_end ?_
    exact cut_n ⟨_, rfl, rfl⟩ ssA (SubH.refl _)
end
theorem CornerSmallest_p (m : MktD) (w v : Int) (hl : m.hou.length ≤ maxLen) (hc : m.con.length ≤ maxLen) (hw : 0 ≤ w ∧ w ≤ 255) (hw2 : 0 ≤ v ∧ v ≤ 255) : PCall Try.prog 12 [mktA false false m, .v (.int .u8 w), .v (.int .u8 v)] (fun r => r = boolA true) := by
  have hr := ready_p m hl hc
  clear hl hc
  refine acall_of_awp T0 Try.func12 rfl rfl rfl ?_
  by_cases hf : faultN m = 0
  case neg =>
    rw [decide_eq_false hf] at hr
    repeat (first | refine awp_seq ?_ | refine awp_region_lit rfl ?_)
    refine awl_hw wtA (st_box rfl rfl raA (by first | assumption | (simp only [cellsA]; rfl)) rfl rfl ?_)
    intro g3
    repeat (first | refine awp_seq ?_ | refine awp_region_lit rfl ?_ | ((first | (show AWL _ _ _ (⟨_, .assign _, _, _, _, _⟩ :: _) _ _ _; refine awl_pw ?wtq (pv_assign rfl rfl) rfl rfl ?_) | (show AWL _ _ _ (⟨_, .load _ _, _, _, _, _⟩ :: _) _ _ _; refine awl_lw ?wtq (lv_cla T0 rfl rfl rfl rcA rfl) rfl rfl rfl ?_)); case wtq => exact wtA) | refine awl_nil ?_)
    refine awl_hw wtA (st_call T0 (hr) rfl rfl rfl rfl (by first | exact callee_lit | exact callee_v | exact callee_fn | assumption) rcA raA rfl ?_)
    rintro _ rfl
    repeat (first | refine awp_seq ?_ | refine awp_region_lit rfl ?_ | refine then_n ?_ | refine awp_cond_t rfl (by first | rfl | assumption | exact dT (by omega)) ?_ | ((first | (show AWL _ _ _ (⟨_, .move _, _, _, _, _⟩ :: _) _ _ _; refine awl_pw ?wtq (pv_move rfl rfl) rfl rfl ?_) | (show AWL _ _ _ (⟨_, .load _ _, _, _, _, _⟩ :: _) _ _ _; refine awl_lw ?wtq (lv_cla T0 rfl rfl rfl rcA rfl) rfl rfl rfl ?_) | (show AWL _ _ _ (⟨_, .unOp .not _ _, _, _, _, _⟩ :: _) _ _ _; refine awl_pw ?wtq (pv_not rfl rfl) rfl rfl ?_) | (show AWL _ _ _ (⟨_, .pick _ _ _, _, _, _, _⟩ :: _) _ _ _; refine awl_pw ?wtq (pv_pick_t rfl rfl tfA rfl) rfl rfl ?_)); case wtq => exact wtA) | refine awl_sk (wf_some rfl rfl rfl rfl tfA) rfl rfl ?_ | refine awl_nil ?_)
    refine awl_hw wtA (st_call T0 (awake_p) rfl rfl rfl rfl (by first | exact callee_lit | exact callee_v | exact callee_fn | assumption) rcA raA rfl ?_)
    rintro _ rfl
    repeat (first | refine awp_ret ?_ | refine then_r ?_ | ((first | (show AWL _ _ _ (⟨_, .assign _, _, _, _, _⟩ :: _) _ _ _; refine awl_pw ?wtq (pv_assign rfl rfl) rfl rfl ?_)); case wtq => exact wtA) | refine awl_nil ?_)
    exact body_p (.cons rfl .nil) rfl
  have hv := vmkt hf
  have hlen := hv.len
  have hpos := hv.pos
  have hclen := hv.clen
  rw [decide_eq_true hf] at hr
  have hH := refhas_p false false m hv
  cases e : possB m
  · rw [e] at hH
    repeat (first | refine awp_seq ?_ | refine awp_region_lit rfl ?_)
    refine awl_hw wtA (st_box rfl rfl raA (by first | assumption | (simp only [cellsA]; rfl)) rfl rfl ?_)
    intro g3
    repeat (first | refine awp_seq ?_ | refine awp_region_lit rfl ?_ | ((first | (show AWL _ _ _ (⟨_, .assign _, _, _, _, _⟩ :: _) _ _ _; refine awl_pw ?wtq (pv_assign rfl rfl) rfl rfl ?_) | (show AWL _ _ _ (⟨_, .load _ _, _, _, _, _⟩ :: _) _ _ _; refine awl_lw ?wtq (lv_cla T0 rfl rfl rfl rcA rfl) rfl rfl rfl ?_)); case wtq => exact wtA) | refine awl_nil ?_)
    refine awl_hw wtA (st_call T0 (hr) rfl rfl rfl rfl (by first | exact callee_lit | exact callee_v | exact callee_fn | assumption) rcA raA rfl ?_)
    rintro _ rfl
    repeat (first | ((first | (show AWL _ _ _ (⟨_, .move _, _, _, _, _⟩ :: _) _ _ _; refine awl_pw ?wtq (pv_move rfl rfl) rfl rfl ?_) | (show AWL _ _ _ (⟨_, .load _ _, _, _, _, _⟩ :: _) _ _ _; refine awl_lw ?wtq (lv_cla T0 rfl rfl rfl rcA rfl) rfl rfl rfl ?_) | (show AWL _ _ _ (⟨_, .unOp .not _ _, _, _, _, _⟩ :: _) _ _ _; refine awl_pw ?wtq (pv_not rfl rfl) rfl rfl ?_)); case wtq => exact wtA))
    refine awl_hw wtA (st_call T0 (hH) rfl rfl rfl rfl (by first | exact callee_lit | exact callee_v | exact callee_fn | assumption) rcA raA rfl ?_)
    rintro _ rfl
    repeat (first | refine awp_seq ?_ | refine awp_region_lit rfl ?_ | refine then_n ?_ | refine awp_cond_t rfl (by first | rfl | assumption | exact dT (by omega)) ?_ | ((first | (show AWL _ _ _ (⟨_, .unOp .not _ _, _, _, _, _⟩ :: _) _ _ _; refine awl_pw ?wtq (pv_not rfl rfl) rfl rfl ?_) | (show AWL _ _ _ (⟨_, .pick _ _ _, _, _, _, _⟩ :: _) _ _ _; refine awl_pw ?wtq (pv_pick_f rfl rfl tfA rfl) rfl rfl ?_)); case wtq => exact wtA) | refine awl_nil ?_)
    refine awl_hw wtA (st_call T0 (awake_p) rfl rfl rfl rfl (by first | exact callee_lit | exact callee_v | exact callee_fn | assumption) rcA raA rfl ?_)
    rintro _ rfl
    repeat (first | refine awp_ret ?_ | refine then_r ?_ | ((first | (show AWL _ _ _ (⟨_, .assign _, _, _, _, _⟩ :: _) _ _ _; refine awl_pw ?wtq (pv_assign rfl rfl) rfl rfl ?_)); case wtq => exact wtA) | refine awl_nil ?_)
    exact body_p (.cons rfl .nil) rfl
  rw [e] at hH
  have hY0 : ∃ Y er, cornR m = (Y, er) ∧ Ext m.hou.length Y 0 ∧ (∀ x ∈ Y, sellB m x.toNat = true) ∧ ((er = 0 ∧ MinC (coB m) (sellB m) m.hou.length Y) ∨ (er = 7 ∧ Y = [] ∧ ∀ e, Ext m.hou.length e 0 → (∀ x ∈ e, sellB m x.toNat = true) → coB m e = false)) := by
    rcases corn_min hf e with ⟨Y, h1, h2⟩ | ⟨h1, h2⟩
    · exact ⟨Y, 0, h1, h2.ext, h2.al, .inl ⟨rfl, h2⟩⟩
    · exact ⟨[], 7, h1, ext_nil, (fun x hx => by cases hx), .inr ⟨rfl, rfl, h2⟩⟩
  obtain ⟨Y, er, hR, hYe, hYs, hYc⟩ := hY0
  have hYx := ext_iff.1 hYe
  have hYr := ext_room hYe (Int.natCast_nonneg _)
  have hYl : Y.length ≤ 6 := by omega
  have hM := market_p m (by omega) (by omega)
  have hK := Corner_p true true m (by omega) (by omega)
  rw [hR] at hK
  replace hK : PCall Try.prog 35 [mktA true true m] (fun r => r = .tup [.t (intsT true Y), intA er]) := hK
  have hp6 : 2 ^ m.hou.length ≤ 2 ^ 6 := Nat.pow_le_pow_right (by omega) hlen
  have hmk := mask_lt hYx.1 Y.length (Nat.le_refl _)
  have hWY := keeping_q false false m (maskL Y Y.length) hv (by omega)
  rw [show bitsL (maskL Y Y.length) m.hou.length = Y from by rw [bits_n hmk (by omega)]; exact bits_mask hYe (by omega)] at hWY
  have hb0 := Int.tmod_nonneg ((2 ^ m.hou.length : Nat) : Int) hw.1
  have hp1 : 1 ≤ 2 ^ m.hou.length := Nat.one_le_two_pow
  have hb1 := Int.tmod_lt_of_pos w (show (0 : Int) < ((2 ^ m.hou.length : Nat) : Int) by omega)
  obtain ⟨b, hb⟩ : ∃ b : Nat, w.tmod ((2 ^ m.hou.length : Nat) : Int) = b := ⟨(w.tmod ((2 ^ m.hou.length : Nat) : Int)).toNat, by omega⟩
  have hb2 : b < 2 ^ m.hou.length := by omega
  obtain ⟨i, hi⟩ := Int.eq_ofNat_of_zero_le (Int.tmod_nonneg (m.hou.length : Int) hw2.1)
  have hin : i < m.hou.length := by
    have := Int.tmod_lt_of_pos v (show (0 : Int) < m.hou.length by omega)
    omega
  have hBx := bits_ext2 hb2 (show m.hou.length ≤ 16 by omega)
  have hBl := bits_len b m.hou.length
  have hYnn : ∀ x ∈ Y, 0 ≤ x := fun x hx => (hYx.1 x hx).1
  have hfX := keepL_fault hf Y hYx.1
  have hvX := vmkt hfX
  have hoX : (keepM m Y).hou.length = m.hou.length := keep_len _ _
  have hi6 : 2 ^ i ≤ 2 ^ 6 := Nat.pow_le_pow_right (by omega) (by omega)
  have hCx : ∀ x ∈ bitsL (2 ^ i) (keepM m Y).hou.length, 0 ≤ x ∧ x < ((keepM m Y).hou.length : Nat) := fun x hx => by
    obtain ⟨j, h1, h2, _⟩ := bits_mem.1 hx
    omega
  have hfY := keepL_fault hfX _ hCx
  have hfZ := keepL_fault hf _ (ext_iff.1 hBx).1
  have hpX : possB (keepM m Y) = true := by rw [keep_poss hv hYnn]; exact e
  have hpY : possB (keepM (keepM m Y) (bitsL (2 ^ i) (keepM m Y).hou.length)) = true := by rw [keep_poss hvX bits_nn]; exact hpX
  have hpZ : possB (keepM m (bitsL b m.hou.length)) = true := by rw [keep_poss hv bits_nn]; exact e
  have hmo := keep_more (r := bitsL (2 ^ i) (keepM m Y).hou.length) hf e hYx.1 bits_nn
  have hbX := bnd_eq (poss_ne hvX hpX)
  have hbZ := bnd_eq (poss_ne (vmkt hfZ) hpZ)
  have hsk := sellK_iff (m := m) (b := b) (k := m.hou.length)
  have hoY : (keepM (keepM m Y) (bitsL (2 ^ i) (keepM m Y).hou.length)).hou.length = m.hou.length := by rw [← hoX]; exact keep_len _ _
  have hoZ : (keepM m (bitsL b m.hou.length)).hou.length = m.hou.length := keep_len _ _
  have hMX := market_q true false (keepM m Y) (by omega) (show m.con.length ≤ 1000 by omega)
  have hMY := market_q true false (keepM (keepM m Y) (bitsL (2 ^ i) (keepM m Y).hou.length)) (by omega) (show m.con.length ≤ 1000 by omega)
  have hMZ := market_q true false (keepM m (bitsL b m.hou.length)) (by omega) (show m.con.length ≤ 1000 by omega)
  have hCX := Cornered_p true true (keepM m Y) (by omega) (show m.con.length ≤ 1000 by omega)
  have hCY := Cornered_p true true (keepM (keepM m Y) (bitsL (2 ^ i) (keepM m Y).hou.length)) (by omega) (show m.con.length ≤ 1000 by omega)
  have hCZ := Cornered_p true true (keepM m (bitsL b m.hou.length)) (by omega) (show m.con.length ≤ 1000 by omega)
  rw [asked_yes hfX hpX] at hCX
  rw [asked_yes hfY hpY] at hCY
  rw [asked_yes hfZ hpZ] at hCZ
  have l12 := @lt_12
  have l13 := @lt_13
  repeat (first | refine awp_seq ?_ | refine awp_region_lit rfl ?_)
  refine awl_hw wtA (st_box rfl rfl raA (by first | assumption | (simp only [cellsA]; rfl)) rfl rfl ?_)
  intro g3
  repeat (first | refine awp_seq ?_ | refine awp_region_lit rfl ?_ | ((first | (show AWL _ _ _ (⟨_, .assign _, _, _, _, _⟩ :: _) _ _ _; refine awl_pw ?wtq (pv_assign rfl rfl) rfl rfl ?_) | (show AWL _ _ _ (⟨_, .load _ _, _, _, _, _⟩ :: _) _ _ _; refine awl_lw ?wtq (lv_cla T0 rfl rfl rfl rcA rfl) rfl rfl rfl ?_)); case wtq => exact wtA) | refine awl_nil ?_)
  refine awl_hw wtA (st_call T0 (hr) rfl rfl rfl rfl (by first | exact callee_lit | exact callee_v | exact callee_fn | assumption) rcA raA rfl ?_)
  rintro _ rfl
  repeat (first | ((first | (show AWL _ _ _ (⟨_, .move _, _, _, _, _⟩ :: _) _ _ _; refine awl_pw ?wtq (pv_move rfl rfl) rfl rfl ?_) | (show AWL _ _ _ (⟨_, .load _ _, _, _, _, _⟩ :: _) _ _ _; refine awl_lw ?wtq (lv_cla T0 rfl rfl rfl rcA rfl) rfl rfl rfl ?_) | (show AWL _ _ _ (⟨_, .unOp .not _ _, _, _, _, _⟩ :: _) _ _ _; refine awl_pw ?wtq (pv_not rfl rfl) rfl rfl ?_)); case wtq => exact wtA))
  refine awl_hw wtA (st_call T0 (hH) rfl rfl rfl rfl (by first | exact callee_lit | exact callee_v | exact callee_fn | assumption) rcA raA rfl ?_)
  rintro _ rfl
  repeat (first | refine awp_seq ?_ | refine awp_region_lit rfl ?_ | refine awp_skip ?_ | refine then_n ?_ | refine awp_cond_f rfl (by first | rfl | assumption | exact dF (by omega)) ?_ | ((first | (show AWL _ _ _ (⟨_, .load _ _, _, _, _, _⟩ :: _) _ _ _; refine awl_lw ?wtq (lv_cla T0 rfl rfl rfl rcA rfl) rfl rfl rfl ?_) | (show AWL _ _ _ (⟨_, .unOp .not _ _, _, _, _, _⟩ :: _) _ _ _; refine awl_pw ?wtq (pv_not rfl rfl) rfl rfl ?_) | (show AWL _ _ _ (⟨_, .pick _ _ _, _, _, _, _⟩ :: _) _ _ _; refine awl_pw ?wtq (pv_pick_f rfl rfl tfA rfl) rfl rfl ?_)); case wtq => exact wtA) | refine awl_nil ?_)
  refine awl_hw wtA (st_call T0 (hM) rfl rfl rfl rfl (by first | exact callee_lit | exact callee_v | exact callee_fn | assumption) rcA raA rfl ?_)
  rintro _ rfl
  skip
  refine awl_hw wtA (st_call T0 (hK) rfl rfl rfl rfl (by first | exact callee_lit | exact callee_v | exact callee_fn | assumption) rcA raA rfl ?_)
  rintro _ rfl
  repeat (first | refine awp_seq ?_ | refine awp_block ?_ | refine awp_region_lit rfl ?_ | ((first | (show AWL _ _ _ (⟨_, .move _, _, _, _, _⟩ :: _) _ _ _; refine awl_pw ?wtq (pv_move rfl rfl) rfl rfl ?_) | (show AWL _ _ _ (⟨_, .assign _, _, _, _, _⟩ :: _) _ _ _; refine awl_pw ?wtq (pv_assign rfl rfl) rfl rfl ?_) | (show AWL _ _ _ (⟨_, .extract _ _, _, _, _, _⟩ :: _) _ _ _; refine awl_pw ?wtq (pv_extract rfl rfl rfl) rfl rfl ?_)); case wtq => exact wtA) | refine awl_nil ?_)
  refine awp_loop (fun q s h => ∃ (k : Nat), k ≤ Y.length ∧ q = Y.length - k ∧ s = [(1, .v (.int .u8 w)), (2, .v (.int .u8 v)), (3, .v (ptrV g3)), (7, .t (intsT true Y)), (8, intA er), (9, intA (maskL Y k : Nat)), (10, intA k)] ∧ h = [.cl g3 25 [intA m.ex, .t (housT false m.hou), .t (consT false m.con)]]) ?_ ⟨0, Nat.zero_le _, rfl, rfl, rfl⟩ ssA rcA
  rintro q s h ⟨k, hk, rfl, rfl, rfl⟩
  by_cases hkt : k < Y.length
  · have hx := hYx.1 _ (getD_mem (d := (0 : Int)) hkt)
    have hsx := hYs _ (getD_mem (d := (0 : Int)) hkt)
    obtain ⟨j, hj⟩ : ∃ j : Nat, Y.getD k 0 = j := ⟨(Y.getD k 0).toNat, by omega⟩
    have hmk1 := mask_lt hYx.1 k (by omega)
    have hmk2 : 2 ^ j ≤ 2 ^ 6 := Nat.pow_le_pow_right (by omega) (by omega)
    have hsh := shl_get hj (show j ≤ 20 by omega)
    have hor : maskL Y (k + 1) = maskL Y k ||| 2 ^ j := by rw [mask_or, hj]; rfl
    have e20 : (2 : Nat) ^ 20 = 1048576 := by decide
    clear hMX hMY hMZ hCX hCY hCZ l12 l13 hWY
    repeat (first | refine awp_seq ?_ | refine awp_block ?_ | refine awp_region_lit rfl ?_ | refine awp_skip ?_ | refine then_n ?_ | refine awp_cond_t rfl (by first | rfl | assumption | exact dT (by omega)) ?_ | ((first | (show AWL _ _ _ (⟨_, .move _, _, _, _, _⟩ :: _) _ _ _; refine awl_pw ?wtq (pv_move rfl rfl) rfl rfl ?_) | (show AWL _ _ _ (⟨_, .binOp .lss _ _ _ _, _, _, _, _⟩ :: _) _ _ _; refine awl_pw ?wtq (pv_lss rfl rfl rfl) rfl rfl ?_) | (show AWL _ _ _ (⟨_, .call ⟨.builtin .len, _, _⟩, _, _, _, _⟩ :: _) _ _ _; refine awl_pw ?wtq (pv_len_t T0 rfl rfl rfl) rfl rfl ?_)); case wtq => exact wtA) | refine awl_nil ?_)
    refine awp_cut _ (awp_weak ssA rcA (lt_8 (g3 := g3) (k := k) (Y := Y) (cp := false) (cc := false) (m := m) (u1 := .v (.int .u8 w)) (u2 := .v (.int .u8 v)) (u8 := intA er) (u9 := intA (maskL Y k : Nat)) hkt hYe hsx hlen hYl rfl)) ?_
    rintro s h ⟨rfl, rfl⟩
    repeat (first | refine awp_region_lit rfl ?_ | refine awp_skip ?_ | refine awp_cond_f rfl (by first | rfl | assumption | exact dF (by omega)) ?_ | ((first | (show AWL _ _ _ (⟨_, .move _, _, _, _, _⟩ :: _) _ _ _; refine awl_pw ?wtq (pv_move rfl rfl) rfl rfl ?_) | (show AWL _ _ _ (⟨_, .load _ _, _, _, _, _⟩ :: _) _ _ _; refine awl_lw ?wtq (lv_elt_sc T0 rfl rfl rfl rfl) rfl rfl rfl ?_) | (show AWL _ _ _ (⟨_, .indexAddr _ _ _, _, _, _, _⟩ :: _) _ _ _; refine awl_pw ?wtq (pv_ix_t T0 rfl rfl rfl rfl (by omega) ixA) rfl rfl ?_)); case wtq => exact wtA))
    refine awl_pw (wt_none rfl) (pv_convert rfl rfl Try.underlying3 Try.underlying92 (wu64 (by omega))) rfl rfl ?_
    refine awl_pw (wt_none rfl) (pv_shl rfl rfl rfl (by omega) hsh) rfl rfl ?_
    refine awl_pw (wt_none rfl) (pv_or (m := maskL Y k) (n := 2 ^ j) rfl rfl rfl (by omega) (by omega)) rfl rfl ?_
    rw [← hor]
    repeat (first | refine awp_region_lit rfl ?_ | ((first | (show AWL _ _ _ (⟨_, .move _, _, _, _, _⟩ :: _) _ _ _; refine awl_pw ?wtq (pv_move rfl rfl) rfl rfl ?_) | (show AWL _ _ _ (⟨_, .assign _, _, _, _, _⟩ :: _) _ _ _; refine awl_pw ?wtq (pv_assign rfl rfl) rfl rfl ?_) | (show AWL _ _ _ (⟨_, .binOp .add _ _ _ _, _, _, _, _⟩ :: _) _ _ _; refine awl_pw ?wtq (pv_add rfl rfl rfl (by first | assumption | exact wr64 (by omega))) rfl rfl ?_)); case wtq => exact wtA) | refine awl_nil ?_)
    refine rnd_n _ _ _ ?_ ⟨k + 1, hkt, rfl, rfl, rfl⟩ ssA rcA
    omega
  obtain rfl : k = Y.length := by omega
  repeat (first | refine awp_seq ?_ | refine awp_region_lit rfl ?_ | refine awp_exit ?_ | refine then_n ?_ | refine awp_cond_f rfl (by first | rfl | assumption | exact dF (by omega)) ?_ | ((first | (show AWL _ _ _ (⟨_, .move _, _, _, _, _⟩ :: _) _ _ _; refine awl_pw ?wtq (pv_move rfl rfl) rfl rfl ?_) | (show AWL _ _ _ (⟨_, .load _ _, _, _, _, _⟩ :: _) _ _ _; refine awl_lw ?wtq (lv_cla T0 rfl rfl rfl rcA rfl) rfl rfl rfl ?_) | (show AWL _ _ _ (⟨_, .binOp .lss _ _ _ _, _, _, _, _⟩ :: _) _ _ _; refine awl_pw ?wtq (pv_lss rfl rfl rfl) rfl rfl ?_) | (show AWL _ _ _ (⟨_, .call ⟨.builtin .len, _, _⟩, _, _, _, _⟩ :: _) _ _ _; refine awl_pw ?wtq (pv_len_t T0 rfl rfl rfl) rfl rfl ?_)); case wtq => exact wtA) | refine awl_nil ?_)
  refine awl_hw wtA (st_call T0 (hWY) rfl rfl rfl rfl (by first | exact callee_lit | exact callee_v | exact callee_fn | assumption) rcA raA rfl ?_)
  rintro _ rfl
  repeat (first | ((first | (show AWL _ _ _ (⟨_, .move _, _, _, _, _⟩ :: _) _ _ _; refine awl_pw ?wtq (pv_move rfl rfl) rfl rfl ?_) | (show AWL _ _ _ (⟨_, .extract _ _, _, _, _, _⟩ :: _) _ _ _; refine awl_pw ?wtq (pv_extract rfl rfl rfl) rfl rfl ?_)); case wtq => exact wtA))
  refine awl_hw wtA (st_alloc T0 rfl rfl rfl rfl scA ?_)
  intro g11
  repeat (first | refine awp_seq ?_ | ((first | (show AWL _ _ _ (⟨_, .assign _, _, _, _, _⟩ :: _) _ _ _; refine awl_pw ?wtq (pv_assign rfl rfl) rfl rfl ?_)); case wtq => exact wtA) | (show AWL _ _ _ (⟨_, .store _ _ _, _, _, _, _⟩ :: _) _ _ _; refine awl_hw wtA (st_store T0 rfl rfl rfl rfl rfl (by first | assumption | (simp only [cellsA]; rfl)) rfl rfl rfl rcA rcA trivial ?_)) | refine awl_nil ?_)
  refine awp_cut _ (awp_weak ssA rcA (l12 (g3 := g3) (g11 := g11) (b := i) (cp := false) (cc := false) (cp' := true) (m := m) (x := keepM m Y) (w := v) (u1 := .v (.int .u8 w)) (u7 := .t (intsT true Y)) (u8 := intA er) (rest := []) hvX hw2 hoX hin hi (h := rfl))) ?_
  rintro s h ⟨g14, rfl, rfl⟩
  repeat (first | refine awp_seq ?_ | refine awp_block ?_ | refine then_n ?_)
  refine awp_cut _ (awp_weak ssA rcA (l13 (g3 := g3) (b := b) (cp := false) (cc := false) (m := m) (w := w) (u7 := .t (intsT true Y)) (u8 := intA er) (u11 := .v (ptrV g11)) (u12 := .v (ptrV g14)) (rest := [.cl g14 25 [intA m.ex, .t (housT true (keepM (keepM m Y) (bitsL (2 ^ i) (keepM m Y).hou.length)).hou), .t (consT false m.con)], .cl g11 25 [intA m.ex, .t (housT true (keepM m Y).hou), .t (consT false m.con)]]) hv hw hb2 hb (h := rfl))) ?_
  rintro s h ⟨g17, rfl, rfl⟩
  clear l12 l13 hWY
  have hcY : er = 0 → 0 < lowN (keepM m Y) := fun h0 => by
    rcases hYc with ⟨_, h2⟩ | ⟨h1, _⟩
    · have := of_decide_eq_true h2.en
      rw [hbX] at this
      exact this
    · omega
  have hcZ : sellK m b m.hou.length = true → 0 < lowN (keepM m (bitsL b m.hou.length)) → (er = 0 ∧ shortB (bitsL b m.hou.length) Y = false) := fun h1 h2 => by
    have hco : coB m (bitsL b m.hou.length) = true := decide_eq_true (by rw [hbZ]; exact h2)
    rcases hYc with ⟨h3, h4⟩ | ⟨h3, _, h4⟩
    · refine ⟨h3, ?_⟩
      cases c : shortB (bitsL b m.hou.length) Y
      · rfl
      · exact absurd (shortB_iff.1 c) (h4.min _ hBx (hsk.1 h1) hco)
    · rw [h4 _ hBx (hsk.1 h1)] at hco; cases hco
  have her : er = 0 ∨ (er = 7 ∧ Y = []) := hYc.imp And.left (fun h => ⟨h.1, h.2.1⟩)
  have hSq := shorter_q (cp := true) (cp' := true) (a := bitsL b m.hou.length) (c := Y) (r := shortB (bitsL b m.hou.length) Y) (by omega) (by omega) rfl
  clear hbX hbZ hYc hsk hR
  generalize lowN (keepM (keepM m Y) (bitsL (2 ^ i) (keepM m Y).hou.length)) = LY at *
  generalize highN (keepM (keepM m Y) (bitsL (2 ^ i) (keepM m Y).hou.length)) = HY at *
  generalize lowN (keepM m Y) = LX at *
  generalize highN (keepM m Y) = HX at *
  generalize lowN (keepM m (bitsL b m.hou.length)) = LZ at *
  generalize highN (keepM m (bitsL b m.hou.length)) = HZ at *
  replace hCX : PCall Try.prog 31 [mktA true true (keepM m Y)] (fun r => r = .tup [boolA (decide (0 < LX)), boolA (decide (0 < HX)), intA 0]) := hCX
  replace hCY : PCall Try.prog 31 [mktA true true (keepM (keepM m Y) (bitsL (2 ^ i) (keepM m Y).hou.length))] (fun r => r = .tup [boolA (decide (0 < LY)), boolA (decide (0 < HY)), intA 0]) := hCY
  replace hCZ : PCall Try.prog 31 [mktA true true (keepM m (bitsL b m.hou.length))] (fun r => r = .tup [boolA (decide (0 < LZ)), boolA (decide (0 < HZ)), intA 0]) := hCZ
  repeat (first | refine awp_seq ?_ | refine awp_region_lit rfl ?_ | ((first | (show AWL _ _ _ (⟨_, .load _ _, _, _, _, _⟩ :: _) _ _ _; refine awl_lw ?wtq (lv_cla T0 rfl rfl rfl rcA rfl) rfl rfl rfl ?_)); case wtq => exact wtA))
  refine awl_hw wtA (st_call T0 (hMX) rfl rfl rfl rfl (by first | exact callee_lit | exact callee_v | exact callee_fn | assumption) rcA raA rfl ?_)
  rintro _ rfl
  skip
  refine awl_hw wtA (st_call T0 (hCX) rfl rfl rfl rfl (by first | exact callee_lit | exact callee_v | exact callee_fn | assumption) rcA raA rfl ?_)
  rintro _ rfl
  repeat (first | refine awp_seq ?_ | refine awp_region_lit rfl ?_ | ((first | (show AWL _ _ _ (⟨_, .move _, _, _, _, _⟩ :: _) _ _ _; refine awl_pw ?wtq (pv_move rfl rfl) rfl rfl ?_) | (show AWL _ _ _ (⟨_, .assign _, _, _, _, _⟩ :: _) _ _ _; refine awl_pw ?wtq (pv_assign rfl rfl) rfl rfl ?_) | (show AWL _ _ _ (⟨_, .load _ _, _, _, _, _⟩ :: _) _ _ _; refine awl_lw ?wtq (lv_cla T0 rfl rfl rfl rcA rfl) rfl rfl rfl ?_) | (show AWL _ _ _ (⟨_, .extract _ _, _, _, _, _⟩ :: _) _ _ _; refine awl_pw ?wtq (pv_extract rfl rfl rfl) rfl rfl ?_)); case wtq => exact wtA) | refine awl_nil ?_)
  refine awl_hw wtA (st_call T0 (hMY) rfl rfl rfl rfl (by first | exact callee_lit | exact callee_v | exact callee_fn | assumption) rcA raA rfl ?_)
  rintro _ rfl
  skip
  refine awl_hw wtA (st_call T0 (hCY) rfl rfl rfl rfl (by first | exact callee_lit | exact callee_v | exact callee_fn | assumption) rcA raA rfl ?_)
  rintro _ rfl
  repeat (first | refine awp_seq ?_ | refine awp_region_lit rfl ?_ | ((first | (show AWL _ _ _ (⟨_, .move _, _, _, _, _⟩ :: _) _ _ _; refine awl_pw ?wtq (pv_move rfl rfl) rfl rfl ?_) | (show AWL _ _ _ (⟨_, .assign _, _, _, _, _⟩ :: _) _ _ _; refine awl_pw ?wtq (pv_assign rfl rfl) rfl rfl ?_) | (show AWL _ _ _ (⟨_, .load _ _, _, _, _, _⟩ :: _) _ _ _; refine awl_lw ?wtq (lv_cla T0 rfl rfl rfl rcA rfl) rfl rfl rfl ?_) | (show AWL _ _ _ (⟨_, .extract _ _, _, _, _, _⟩ :: _) _ _ _; refine awl_pw ?wtq (pv_extract rfl rfl rfl) rfl rfl ?_)); case wtq => exact wtA) | refine awl_nil ?_)
  refine awl_hw wtA (st_call T0 (hMZ) rfl rfl rfl rfl (by first | exact callee_lit | exact callee_v | exact callee_fn | assumption) rcA raA rfl ?_)
  rintro _ rfl
  skip
  refine awl_hw wtA (st_call T0 (hCZ) rfl rfl rfl rfl (by first | exact callee_lit | exact callee_v | exact callee_fn | assumption) rcA raA rfl ?_)
  rintro _ rfl
  rcases her with rfl | ⟨rfl, rfl⟩
  · have p1 : decide (0 < LX) = true := decide_eq_true (hcY rfl)
    have p2 : decide (0 < LY) = true := decide_eq_true (by have := hcY rfl; omega)
    by_cases pz : 0 < LZ
    · have p3 := decide_eq_true pz
      cases hse : sellK m b m.hou.length
      · repeat (first | refine awp_seq ?_ | refine awp_region_lit rfl ?_ | refine awp_skip ?_ | refine then_n ?_ | refine awp_cond_f rfl (by first | rfl | assumption | exact dF (by omega)) ?_ | ((first | (show AWL _ _ _ (⟨_, .move _, _, _, _, _⟩ :: _) _ _ _; refine awl_pw ?wtq (pv_move rfl rfl) rfl rfl ?_) | (show AWL _ _ _ (⟨_, .assign _, _, _, _, _⟩ :: _) _ _ _; refine awl_pw ?wtq (pv_assign rfl rfl) rfl rfl ?_) | (show AWL _ _ _ (⟨_, .binOp .neq _ _ _ _, _, _, _, _⟩ :: _) _ _ _; refine awl_pw ?wtq (pv_neq rfl rfl rfl) rfl rfl ?_) | (show AWL _ _ _ (⟨_, .unOp .not _ _, _, _, _, _⟩ :: _) _ _ _; refine awl_pw ?wtq (pv_not rfl rfl) rfl rfl ?_) | (show AWL _ _ _ (⟨_, .extract _ _, _, _, _, _⟩ :: _) _ _ _; refine awl_pw ?wtq (pv_extract rfl rfl rfl) rfl rfl ?_) | (show AWL _ _ _ (⟨_, .pick _ _ _, _, _, _, _⟩ :: _) _ _ _; refine awl_pw ?wtq (pv_pick_t rfl rfl tfA rfl) rfl rfl ?_) | (show AWL _ _ _ (⟨_, .pick _ _ _, _, _, _, _⟩ :: _) _ _ _; refine awl_pw ?wtq (pv_pick_f rfl rfl tfA rfl) rfl rfl ?_)); case wtq => exact wtA) | refine awl_sk (wf_some rfl rfl rfl rfl tfA) rfl rfl ?_ | refine awl_nil ?_)
        refine awl_hw wtA (st_call T0 (awake_p) rfl rfl rfl rfl (by first | exact callee_lit | exact callee_v | exact callee_fn | assumption) rcA raA rfl ?_)
        rintro _ rfl
        repeat (first | refine awp_ret ?_ | ((first | (show AWL _ _ _ (⟨_, .assign _, _, _, _, _⟩ :: _) _ _ _; refine awl_pw ?wtq (pv_assign rfl rfl) rfl rfl ?_) | (show AWL _ _ _ (⟨_, .pick _ _ _, _, _, _, _⟩ :: _) _ _ _; refine awl_pw ?wtq (pv_pick_t rfl rfl tfA rfl) rfl rfl ?_)); case wtq => exact wtA) | refine awl_nil ?_)
        exact body_p (.cons rfl .nil) rfl
      · have hsf := (hcZ hse pz).2
        rw [hsf] at hSq
        repeat (first | refine awp_seq ?_ | refine awp_region_lit rfl ?_ | refine awp_skip ?_ | refine then_n ?_ | refine awp_cond_f rfl (by first | rfl | assumption | exact dF (by omega)) ?_ | ((first | (show AWL _ _ _ (⟨_, .move _, _, _, _, _⟩ :: _) _ _ _; refine awl_pw ?wtq (pv_move rfl rfl) rfl rfl ?_) | (show AWL _ _ _ (⟨_, .assign _, _, _, _, _⟩ :: _) _ _ _; refine awl_pw ?wtq (pv_assign rfl rfl) rfl rfl ?_) | (show AWL _ _ _ (⟨_, .binOp .neq _ _ _ _, _, _, _, _⟩ :: _) _ _ _; refine awl_pw ?wtq (pv_neq rfl rfl rfl) rfl rfl ?_) | (show AWL _ _ _ (⟨_, .extract _ _, _, _, _, _⟩ :: _) _ _ _; refine awl_pw ?wtq (pv_extract rfl rfl rfl) rfl rfl ?_) | (show AWL _ _ _ (⟨_, .pick _ _ _, _, _, _, _⟩ :: _) _ _ _; refine awl_pw ?wtq (pv_pick_t rfl rfl tfA rfl) rfl rfl ?_) | (show AWL _ _ _ (⟨_, .pick _ _ _, _, _, _, _⟩ :: _) _ _ _; refine awl_pw ?wtq (pv_pick_f rfl rfl tfA rfl) rfl rfl ?_)); case wtq => exact wtA) | refine awl_nil ?_)
        refine awl_hw wtA (st_call T0 (hSq) rfl rfl rfl rfl (by first | exact callee_lit | exact callee_v | exact callee_fn | assumption) rcA raA rfl ?_)
        rintro _ rfl
        repeat (first | ((first | (show AWL _ _ _ (⟨_, .move _, _, _, _, _⟩ :: _) _ _ _; refine awl_pw ?wtq (pv_move rfl rfl) rfl rfl ?_) | (show AWL _ _ _ (⟨_, .unOp .not _ _, _, _, _, _⟩ :: _) _ _ _; refine awl_pw ?wtq (pv_not rfl rfl) rfl rfl ?_) | (show AWL _ _ _ (⟨_, .pick _ _ _, _, _, _, _⟩ :: _) _ _ _; refine awl_pw ?wtq (pv_pick_t rfl rfl tfA rfl) rfl rfl ?_)); case wtq => exact wtA))
        refine awl_hw wtA (st_call T0 (awake_p) rfl rfl rfl rfl (by first | exact callee_lit | exact callee_v | exact callee_fn | assumption) rcA raA rfl ?_)
        rintro _ rfl
        repeat (first | refine awp_ret ?_ | ((first | (show AWL _ _ _ (⟨_, .assign _, _, _, _, _⟩ :: _) _ _ _; refine awl_pw ?wtq (pv_assign rfl rfl) rfl rfl ?_) | (show AWL _ _ _ (⟨_, .pick _ _ _, _, _, _, _⟩ :: _) _ _ _; refine awl_pw ?wtq (pv_pick_t rfl rfl tfA rfl) rfl rfl ?_)); case wtq => exact wtA) | refine awl_nil ?_)
        exact body_p (.cons rfl .nil) rfl
    · have p3 := decide_eq_false pz
      repeat (first | refine awp_seq ?_ | refine awp_region_lit rfl ?_ | refine awp_skip ?_ | refine then_n ?_ | refine awp_cond_f rfl (by first | rfl | assumption | exact dF (by omega)) ?_ | ((first | (show AWL _ _ _ (⟨_, .move _, _, _, _, _⟩ :: _) _ _ _; refine awl_pw ?wtq (pv_move rfl rfl) rfl rfl ?_) | (show AWL _ _ _ (⟨_, .assign _, _, _, _, _⟩ :: _) _ _ _; refine awl_pw ?wtq (pv_assign rfl rfl) rfl rfl ?_) | (show AWL _ _ _ (⟨_, .binOp .neq _ _ _ _, _, _, _, _⟩ :: _) _ _ _; refine awl_pw ?wtq (pv_neq rfl rfl rfl) rfl rfl ?_) | (show AWL _ _ _ (⟨_, .unOp .not _ _, _, _, _, _⟩ :: _) _ _ _; refine awl_pw ?wtq (pv_not rfl rfl) rfl rfl ?_) | (show AWL _ _ _ (⟨_, .extract _ _, _, _, _, _⟩ :: _) _ _ _; refine awl_pw ?wtq (pv_extract rfl rfl rfl) rfl rfl ?_) | (show AWL _ _ _ (⟨_, .pick _ _ _, _, _, _, _⟩ :: _) _ _ _; refine awl_pw ?wtq (pv_pick_t rfl rfl tfA rfl) rfl rfl ?_) | (show AWL _ _ _ (⟨_, .pick _ _ _, _, _, _, _⟩ :: _) _ _ _; refine awl_pw ?wtq (pv_pick_f rfl rfl tfA rfl) rfl rfl ?_)); case wtq => exact wtA) | refine awl_sk (wf_some rfl rfl rfl rfl tfA) rfl rfl ?_ | refine awl_nil ?_)
      refine awl_hw wtA (st_call T0 (awake_p) rfl rfl rfl rfl (by first | exact callee_lit | exact callee_v | exact callee_fn | assumption) rcA raA rfl ?_)
      rintro _ rfl
      repeat (first | refine awp_ret ?_ | ((first | (show AWL _ _ _ (⟨_, .assign _, _, _, _, _⟩ :: _) _ _ _; refine awl_pw ?wtq (pv_assign rfl rfl) rfl rfl ?_) | (show AWL _ _ _ (⟨_, .pick _ _ _, _, _, _, _⟩ :: _) _ _ _; refine awl_pw ?wtq (pv_pick_t rfl rfl tfA rfl) rfl rfl ?_)); case wtq => exact wtA) | refine awl_nil ?_)
      exact body_p (.cons rfl .nil) rfl
  · have z0 : ([] : List Int).length = 0 := rfl
    have z1 : decide ((([] : List Int).length : Int) = 0) = true := rfl
    by_cases pz : 0 < LZ
    · have p3 := decide_eq_true pz
      cases hse : sellK m b m.hou.length
      · repeat (first | refine awp_seq ?_ | refine awp_region_lit rfl ?_ | refine awp_skip ?_ | refine then_n ?_ | refine awp_cond_t rfl (by first | rfl | assumption | exact dT (by omega)) ?_ | refine awp_cond_f rfl (by first | rfl | assumption | exact dF (by omega)) ?_ | ((first | (show AWL _ _ _ (⟨_, .move _, _, _, _, _⟩ :: _) _ _ _; refine awl_pw ?wtq (pv_move rfl rfl) rfl rfl ?_) | (show AWL _ _ _ (⟨_, .assign _, _, _, _, _⟩ :: _) _ _ _; refine awl_pw ?wtq (pv_assign rfl rfl) rfl rfl ?_) | (show AWL _ _ _ (⟨_, .binOp .eql _ _ _ _, _, _, _, _⟩ :: _) _ _ _; refine awl_pw ?wtq (pv_eql rfl rfl rfl) rfl rfl ?_) | (show AWL _ _ _ (⟨_, .binOp .neq _ _ _ _, _, _, _, _⟩ :: _) _ _ _; refine awl_pw ?wtq (pv_neq rfl rfl rfl) rfl rfl ?_) | (show AWL _ _ _ (⟨_, .call ⟨.builtin .len, _, _⟩, _, _, _, _⟩ :: _) _ _ _; refine awl_pw ?wtq (pv_len_t T0 rfl rfl rfl) rfl rfl ?_) | (show AWL _ _ _ (⟨_, .unOp .not _ _, _, _, _, _⟩ :: _) _ _ _; refine awl_pw ?wtq (pv_not rfl rfl) rfl rfl ?_) | (show AWL _ _ _ (⟨_, .extract _ _, _, _, _, _⟩ :: _) _ _ _; refine awl_pw ?wtq (pv_extract rfl rfl rfl) rfl rfl ?_) | (show AWL _ _ _ (⟨_, .pick _ _ _, _, _, _, _⟩ :: _) _ _ _; refine awl_pw ?wtq (pv_pick_t rfl rfl tfA rfl) rfl rfl ?_) | (show AWL _ _ _ (⟨_, .pick _ _ _, _, _, _, _⟩ :: _) _ _ _; refine awl_pw ?wtq (pv_pick_f rfl rfl tfA rfl) rfl rfl ?_)); case wtq => exact wtA) | refine awl_nil ?_)
        refine awl_hw wtA (st_call T0 (awake_p) rfl rfl rfl rfl (by first | exact callee_lit | exact callee_v | exact callee_fn | assumption) rcA raA rfl ?_)
        rintro _ rfl
        repeat (first | refine awp_ret ?_ | refine then_r ?_ | ((first | (show AWL _ _ _ (⟨_, .assign _, _, _, _, _⟩ :: _) _ _ _; refine awl_pw ?wtq (pv_assign rfl rfl) rfl rfl ?_) | (show AWL _ _ _ (⟨_, .pick _ _ _, _, _, _, _⟩ :: _) _ _ _; refine awl_pw ?wtq (pv_pick_t rfl rfl tfA rfl) rfl rfl ?_)); case wtq => exact wtA) | refine awl_nil ?_)
        exact body_p (.cons rfl .nil) rfl
      · have := (hcZ hse pz).1
        omega
    · have p3 := decide_eq_false pz
      repeat (first | refine awp_seq ?_ | refine awp_region_lit rfl ?_ | refine awp_skip ?_ | refine then_n ?_ | refine awp_cond_t rfl (by first | rfl | assumption | exact dT (by omega)) ?_ | refine awp_cond_f rfl (by first | rfl | assumption | exact dF (by omega)) ?_ | ((first | (show AWL _ _ _ (⟨_, .move _, _, _, _, _⟩ :: _) _ _ _; refine awl_pw ?wtq (pv_move rfl rfl) rfl rfl ?_) | (show AWL _ _ _ (⟨_, .assign _, _, _, _, _⟩ :: _) _ _ _; refine awl_pw ?wtq (pv_assign rfl rfl) rfl rfl ?_) | (show AWL _ _ _ (⟨_, .binOp .eql _ _ _ _, _, _, _, _⟩ :: _) _ _ _; refine awl_pw ?wtq (pv_eql rfl rfl rfl) rfl rfl ?_) | (show AWL _ _ _ (⟨_, .binOp .neq _ _ _ _, _, _, _, _⟩ :: _) _ _ _; refine awl_pw ?wtq (pv_neq rfl rfl rfl) rfl rfl ?_) | (show AWL _ _ _ (⟨_, .call ⟨.builtin .len, _, _⟩, _, _, _, _⟩ :: _) _ _ _; refine awl_pw ?wtq (pv_len_t T0 rfl rfl rfl) rfl rfl ?_) | (show AWL _ _ _ (⟨_, .unOp .not _ _, _, _, _, _⟩ :: _) _ _ _; refine awl_pw ?wtq (pv_not rfl rfl) rfl rfl ?_) | (show AWL _ _ _ (⟨_, .extract _ _, _, _, _, _⟩ :: _) _ _ _; refine awl_pw ?wtq (pv_extract rfl rfl rfl) rfl rfl ?_) | (show AWL _ _ _ (⟨_, .pick _ _ _, _, _, _, _⟩ :: _) _ _ _; refine awl_pw ?wtq (pv_pick_t rfl rfl tfA rfl) rfl rfl ?_) | (show AWL _ _ _ (⟨_, .pick _ _ _, _, _, _, _⟩ :: _) _ _ _; refine awl_pw ?wtq (pv_pick_f rfl rfl tfA rfl) rfl rfl ?_)); case wtq => exact wtA) | refine awl_sk (wf_some rfl rfl rfl rfl tfA) rfl rfl ?_ | refine awl_nil ?_)
      refine awl_hw wtA (st_call T0 (awake_p) rfl rfl rfl rfl (by first | exact callee_lit | exact callee_v | exact callee_fn | assumption) rcA raA rfl ?_)
      rintro _ rfl
      repeat (first | refine awp_ret ?_ | refine then_r ?_ | ((first | (show AWL _ _ _ (⟨_, .assign _, _, _, _, _⟩ :: _) _ _ _; refine awl_pw ?wtq (pv_assign rfl rfl) rfl rfl ?_) | (show AWL _ _ _ (⟨_, .pick _ _ _, _, _, _, _⟩ :: _) _ _ _; refine awl_pw ?wtq (pv_pick_t rfl rfl tfA rfl) rfl rfl ?_)); case wtq => exact wtA) | refine awl_nil ?_)
      exact body_p (.cons rfl .nil) rfl
end Go.Proofs.Ytallicfckbdeaaa
