/- The law CornerEnds (Try.func9): walk. -/
import Derived.Test.YtallicfckbdeaaaLb
import Derived.Test.YtallicfckbdeaaaGTy
import Derived.Test.YtallicfckbdeaaaGTs
import Derived.Test.YtallicfckbdeaaaGPa
namespace Go.Proofs.Ytallicfckbdeaaa
open Go Go.RowKit Go.Tl
set_option linter.unusedVariables false
set_option linter.unusedSimpArgs false
set_option maxRecDepth 100000
set_option maxHeartbeats 4000000
attribute [local irreducible] AWP AWL AOp PV LV AWT AWE
section
variable {g1 g3 : Nat} {m : MktD} {t1 t2 : List Int}
theorem lc_9 (hv : VMkt m) (h1 : truthB m t1 = true) (e1 : shortT m t1 = lowN m) (h2 : truthB m t2 = true) (e2 : shortT m t2 = highN m) {ops : Array Oper} (h : regF Try.f9 9 = some ops) :
    AWP Try.prog Try.f9.ntmps none (.region 9 ops true) (cutQ (fun s h => s = [(2, boolA true)] ∧ h = []))
      [(1, .v (ptrV g1)), (3, .v (ptrV g3)), (4, intA 0), (5, .t (intsT true t1)), (6, intA 0), (7, .t (intsT true t2)), (8, intA 0), (9, boolA (decide (0 < lowN m))), (10, boolA (decide (0 < highN m))), (11, intA 0)] [.cl g1 25 [intA m.ex, .t (housT false m.hou), .t (consT false m.con)], .cl g3 46 [intA (lowN m), intA (highN m)]] := by
  cases h
  have hlen := hv.len
  have l1 := (truth_iff.1 h1).1
  have l2 := (truth_iff.1 h2).1
  have q1 : (decide (0 < lowN m) == decide (0 < lowN m)) = true := by simp
  have q2 : (decide (0 < highN m) == decide (0 < highN m)) = true := by simp
  have i1 := istruth_p false false true m t1 hv (by omega)
  have i2 := istruth_p false false true m t2 hv (by omega)
  rw [h1] at i1
  rw [h2] at i2
  have s1 := refshort_t false false true hv h1 e1
  have s2 := refshort_t false false true hv h2 e2
  have d1 : decide (lowN m = lowN m) = true := decide_eq_true rfl
  have d2 : decide (highN m = highN m) = true := decide_eq_true rfl
  refine awp_par T0 (l := (0 :: 1 :: 2 :: 3 :: 4 :: 5 :: 6 :: 7 :: 8 :: 9 :: 10 :: 11 :: 12 :: 13 :: 14 :: 15 :: 16 :: 17 :: 18 :: 19 :: 20 :: 21 :: 22 :: 23 :: 24 :: 25 :: 26 :: 27 :: 28 :: 29 :: 30 :: 31 :: 32 :: 33 :: 34 :: 35 :: 36 :: 37 :: 38 :: 39 :: 40 :: 41 :: 42 :: 43 :: 44 :: 45 :: 46 :: 47 :: 48 :: 49 :: 50 :: 51 :: 52 :: 53 :: 54 :: 55 :: 56 :: 57 :: [])) rfl (by kernel_rfl) (by kernel_rfl) ?_
  apply parW_op (ds := [4]) rfl rfl rfl rfl (by kernel_rfl)
  · exact .inl ⟨(wt_none rfl), stepQ_pv (pv_move rfl rfl) rfl rfl⟩
  apply parW_op (ds := [61]) rfl rfl rfl rfl (by kernel_rfl)
  · exact .inl ⟨(wt_none rfl), stepQ_pv (pv_eql rfl rfl rfl) rfl rfl⟩
  apply parW_op (ds := [62]) rfl rfl rfl rfl (by kernel_rfl)
  · exact .inl ⟨(wt_none rfl), stepQ_pv (pv_move rfl rfl) rfl rfl⟩
  apply parW_op (ds := [6, 63]) rfl rfl rfl rfl (by kernel_rfl)
  · exact .inl ⟨(wt_some' rfl rfl rfl rfl (by first | rfl | assumption | exact dT (by omega) | exact dF (by omega))), stepQ_pv (pv_move rfl rfl) rfl rfl⟩
  apply parW_op (ds := [64, 63]) rfl rfl rfl rfl (by kernel_rfl)
  · exact .inl ⟨(wt_some' rfl rfl rfl rfl (by first | rfl | assumption | exact dT (by omega) | exact dF (by omega))), stepQ_pv (pv_eql rfl rfl rfl) rfl rfl⟩
  apply parW_op (ds := [63, 65]) rfl rfl rfl rfl (by kernel_rfl)
  · exact .inl ⟨(wt_none rfl), stepQ_pv (pv_pick_t rfl rfl (by first | rfl | assumption | exact dT (by omega) | exact dF (by omega)) rfl) rfl rfl⟩
  apply parW_op (ds := [66]) rfl rfl rfl rfl (by kernel_rfl)
  · exact .inl ⟨(wt_none rfl), stepQ_pv (pv_move rfl rfl) rfl rfl⟩
  apply parW_op (ds := [8, 67]) rfl rfl rfl rfl (by kernel_rfl)
  · exact .inl ⟨(wt_some' rfl rfl rfl rfl (by first | rfl | assumption | exact dT (by omega) | exact dF (by omega))), stepQ_pv (pv_move rfl rfl) rfl rfl⟩
  apply parW_op (ds := [68, 67]) rfl rfl rfl rfl (by kernel_rfl)
  · exact .inl ⟨(wt_some' rfl rfl rfl rfl (by first | rfl | assumption | exact dT (by omega) | exact dF (by omega))), stepQ_pv (pv_eql rfl rfl rfl) rfl rfl⟩
  apply parW_op (ds := [67, 69]) rfl rfl rfl rfl (by kernel_rfl)
  · exact .inl ⟨(wt_none rfl), stepQ_pv (pv_pick_t rfl rfl (by first | rfl | assumption | exact dT (by omega) | exact dF (by omega)) rfl) rfl rfl⟩
  apply parW_op (ds := [70]) rfl rfl rfl rfl (by kernel_rfl)
  · exact .inl ⟨(wt_none rfl), stepQ_pv (pv_move rfl rfl) rfl rfl⟩
  apply parW_op (ds := [11, 71]) rfl rfl rfl rfl (by kernel_rfl)
  · exact .inl ⟨(wt_some' rfl rfl rfl rfl (by first | rfl | assumption | exact dT (by omega) | exact dF (by omega))), stepQ_pv (pv_move rfl rfl) rfl rfl⟩
  apply parW_op (ds := [72, 71]) rfl rfl rfl rfl (by kernel_rfl)
  · exact .inl ⟨(wt_some' rfl rfl rfl rfl (by first | rfl | assumption | exact dT (by omega) | exact dF (by omega))), stepQ_pv (pv_eql rfl rfl rfl) rfl rfl⟩
  apply parW_op (ds := [71, 73]) rfl rfl rfl rfl (by kernel_rfl)
  · exact .inl ⟨(wt_none rfl), stepQ_pv (pv_pick_t rfl rfl (by first | rfl | assumption | exact dT (by omega) | exact dF (by omega)) rfl) rfl rfl⟩
  apply parW_op (ds := [74]) rfl rfl rfl rfl (by kernel_rfl)
  · exact .inl ⟨(wt_none rfl), stepQ_pv (pv_move rfl rfl) rfl rfl⟩
  apply parW_op (ds := [1, 75]) rfl rfl rfl rfl (by kernel_rfl)
  · exact .inl ⟨(wt_some' rfl rfl rfl rfl (by first | rfl | assumption | exact dT (by omega) | exact dF (by omega))), stepQ_lv (lv_cla T0 rfl rfl rfl (by solve | repeat' constructor) rfl) rfl rfl⟩
  apply parW_op (ds := [5, 75]) rfl rfl rfl rfl (by kernel_rfl)
  · exact .inl ⟨(wt_some' rfl rfl rfl rfl (by first | rfl | assumption | exact dT (by omega) | exact dF (by omega))), stepQ_pv (pv_move rfl rfl) rfl rfl⟩
  apply parW_op (ds := [76, 77, 75]) rfl rfl rfl rfl (by kernel_rfl)
  · refine .inl ⟨(wt_some' rfl rfl rfl rfl (by first | rfl | assumption | exact dT (by omega) | exact dF (by omega))), ?_⟩
    refine st_call T0 (i1) rfl rfl rfl rfl (by first | exact callee_lit | exact callee_v | exact callee_fn | assumption) (by solve | repeat' constructor) (by first | rfl | assumption) rfl ?_
    rintro _ rfl
    exact ⟨_, Ghost.refl, rfl⟩
  apply parW_op (ds := [75, 78]) rfl rfl rfl rfl (by kernel_rfl)
  · exact .inl ⟨(wt_none rfl), stepQ_pv (pv_pick_t rfl rfl (by first | rfl | assumption | exact dT (by omega) | exact dF (by omega)) rfl) rfl rfl⟩
  apply parW_op (ds := [79]) rfl rfl rfl rfl (by kernel_rfl)
  · exact .inl ⟨(wt_none rfl), stepQ_pv (pv_move rfl rfl) rfl rfl⟩
  apply parW_op (ds := [1, 80]) rfl rfl rfl rfl (by kernel_rfl)
  · exact .inl ⟨(wt_some' rfl rfl rfl rfl (by first | rfl | assumption | exact dT (by omega) | exact dF (by omega))), stepQ_lv (lv_cla T0 rfl rfl rfl (by solve | repeat' constructor) rfl) rfl rfl⟩
  apply parW_op (ds := [7, 80]) rfl rfl rfl rfl (by kernel_rfl)
  · exact .inl ⟨(wt_some' rfl rfl rfl rfl (by first | rfl | assumption | exact dT (by omega) | exact dF (by omega))), stepQ_pv (pv_move rfl rfl) rfl rfl⟩
  apply parW_op (ds := [81, 82, 80]) rfl rfl rfl rfl (by kernel_rfl)
  · refine .inl ⟨(wt_some' rfl rfl rfl rfl (by first | rfl | assumption | exact dT (by omega) | exact dF (by omega))), ?_⟩
    refine st_call T0 (i2) rfl rfl rfl rfl (by first | exact callee_lit | exact callee_v | exact callee_fn | assumption) (by solve | repeat' constructor) (by first | rfl | assumption) rfl ?_
    rintro _ rfl
    exact ⟨_, Ghost.refl, rfl⟩
  apply parW_op (ds := [80, 83]) rfl rfl rfl rfl (by kernel_rfl)
  · exact .inl ⟨(wt_none rfl), stepQ_pv (pv_pick_t rfl rfl (by first | rfl | assumption | exact dT (by omega) | exact dF (by omega)) rfl) rfl rfl⟩
  apply parW_op (ds := [84]) rfl rfl rfl rfl (by kernel_rfl)
  · exact .inl ⟨(wt_none rfl), stepQ_pv (pv_move rfl rfl) rfl rfl⟩
  apply parW_op (ds := [1, 85]) rfl rfl rfl rfl (by kernel_rfl)
  · exact .inl ⟨(wt_some' rfl rfl rfl rfl (by first | rfl | assumption | exact dT (by omega) | exact dF (by omega))), stepQ_lv (lv_cla T0 rfl rfl rfl (by solve | repeat' constructor) rfl) rfl rfl⟩
  apply parW_op (ds := [5, 85]) rfl rfl rfl rfl (by kernel_rfl)
  · exact .inl ⟨(wt_some' rfl rfl rfl rfl (by first | rfl | assumption | exact dT (by omega) | exact dF (by omega))), stepQ_pv (pv_move rfl rfl) rfl rfl⟩
  apply parW_op (ds := [86, 87, 85]) rfl rfl rfl rfl (by kernel_rfl)
  · refine .inl ⟨(wt_some' rfl rfl rfl rfl (by first | rfl | assumption | exact dT (by omega) | exact dF (by omega))), ?_⟩
    refine st_call T0 (s1) rfl rfl rfl rfl (by first | exact callee_lit | exact callee_v | exact callee_fn | assumption) (by solve | repeat' constructor) (by first | rfl | assumption) rfl ?_
    rintro _ rfl
    exact ⟨_, Ghost.refl, rfl⟩
  apply parW_op (ds := [3, 85]) rfl rfl rfl rfl (by kernel_rfl)
  · exact .inl ⟨(wt_some' rfl rfl rfl rfl (by first | rfl | assumption | exact dT (by omega) | exact dF (by omega))), stepQ_pv (pv_fa T0 rfl rfl rfl (by simp; rfl)) rfl rfl⟩
  apply parW_op (ds := [89, 85]) rfl rfl rfl rfl (by kernel_rfl)
  · exact .inl ⟨(wt_some' rfl rfl rfl rfl (by first | rfl | assumption | exact dT (by omega) | exact dF (by omega))), stepQ_lv (lv_cl1 T0 rfl rfl rfl (by solve | repeat' constructor) (by first | rfl | assumption)) rfl rfl⟩
  apply parW_op (ds := [88, 90, 85]) rfl rfl rfl rfl (by kernel_rfl)
  · exact .inl ⟨(wt_some' rfl rfl rfl rfl (by first | rfl | assumption | exact dT (by omega) | exact dF (by omega))), stepQ_pv (pv_eql rfl rfl rfl) rfl rfl⟩
  apply parW_op (ds := [85, 91]) rfl rfl rfl rfl (by kernel_rfl)
  · exact .inl ⟨(wt_none rfl), stepQ_pv (pv_pick_t rfl rfl (by first | rfl | assumption | exact dT (by omega) | exact dF (by omega)) rfl) rfl rfl⟩
  apply parW_op (ds := [92]) rfl rfl rfl rfl (by kernel_rfl)
  · exact .inl ⟨(wt_none rfl), stepQ_pv (pv_move rfl rfl) rfl rfl⟩
  apply parW_op (ds := [1, 93]) rfl rfl rfl rfl (by kernel_rfl)
  · exact .inl ⟨(wt_some' rfl rfl rfl rfl (by first | rfl | assumption | exact dT (by omega) | exact dF (by omega))), stepQ_lv (lv_cla T0 rfl rfl rfl (by solve | repeat' constructor) rfl) rfl rfl⟩
  apply parW_op (ds := [7, 93]) rfl rfl rfl rfl (by kernel_rfl)
  · exact .inl ⟨(wt_some' rfl rfl rfl rfl (by first | rfl | assumption | exact dT (by omega) | exact dF (by omega))), stepQ_pv (pv_move rfl rfl) rfl rfl⟩
  apply parW_op (ds := [94, 95, 93]) rfl rfl rfl rfl (by kernel_rfl)
  · refine .inl ⟨(wt_some' rfl rfl rfl rfl (by first | rfl | assumption | exact dT (by omega) | exact dF (by omega))), ?_⟩
    refine st_call T0 (s2) rfl rfl rfl rfl (by first | exact callee_lit | exact callee_v | exact callee_fn | assumption) (by solve | repeat' constructor) (by first | rfl | assumption) rfl ?_
    rintro _ rfl
    exact ⟨_, Ghost.refl, rfl⟩
  apply parW_op (ds := [3, 93]) rfl rfl rfl rfl (by kernel_rfl)
  · exact .inl ⟨(wt_some' rfl rfl rfl rfl (by first | rfl | assumption | exact dT (by omega) | exact dF (by omega))), stepQ_pv (pv_fa T0 rfl rfl rfl (by simp; rfl)) rfl rfl⟩
  apply parW_op (ds := [97, 93]) rfl rfl rfl rfl (by kernel_rfl)
  · exact .inl ⟨(wt_some' rfl rfl rfl rfl (by first | rfl | assumption | exact dT (by omega) | exact dF (by omega))), stepQ_lv (lv_cl1 T0 rfl rfl rfl (by solve | repeat' constructor) (by first | rfl | assumption)) rfl rfl⟩
  apply parW_op (ds := [96, 98, 93]) rfl rfl rfl rfl (by kernel_rfl)
  · exact .inl ⟨(wt_some' rfl rfl rfl rfl (by first | rfl | assumption | exact dT (by omega) | exact dF (by omega))), stepQ_pv (pv_eql rfl rfl rfl) rfl rfl⟩
  apply parW_op (ds := [93, 99]) rfl rfl rfl rfl (by kernel_rfl)
  · exact .inl ⟨(wt_none rfl), stepQ_pv (pv_pick_t rfl rfl (by first | rfl | assumption | exact dT (by omega) | exact dF (by omega)) rfl) rfl rfl⟩
  apply parW_op (ds := [100]) rfl rfl rfl rfl (by kernel_rfl)
  · exact .inl ⟨(wt_none rfl), stepQ_pv (pv_move rfl rfl) rfl rfl⟩
  apply parW_op (ds := [9, 101]) rfl rfl rfl rfl (by kernel_rfl)
  · exact .inl ⟨(wt_some' rfl rfl rfl rfl (by first | rfl | assumption | exact dT (by omega) | exact dF (by omega))), stepQ_pv (pv_move rfl rfl) rfl rfl⟩
  apply parW_op (ds := [3, 101]) rfl rfl rfl rfl (by kernel_rfl)
  · exact .inl ⟨(wt_some' rfl rfl rfl rfl (by first | rfl | assumption | exact dT (by omega) | exact dF (by omega))), stepQ_pv (pv_fa T0 rfl rfl rfl (by simp; rfl)) rfl rfl⟩
  apply parW_op (ds := [103, 101]) rfl rfl rfl rfl (by kernel_rfl)
  · exact .inl ⟨(wt_some' rfl rfl rfl rfl (by first | rfl | assumption | exact dT (by omega) | exact dF (by omega))), stepQ_lv (lv_cl1 T0 rfl rfl rfl (by solve | repeat' constructor) (by first | rfl | assumption)) rfl rfl⟩
  apply parW_op (ds := [104, 101]) rfl rfl rfl rfl (by kernel_rfl)
  · exact .inl ⟨(wt_some' rfl rfl rfl rfl (by first | rfl | assumption | exact dT (by omega) | exact dF (by omega))), stepQ_pv (pv_gtr rfl rfl rfl) rfl rfl⟩
  apply parW_op (ds := [102, 105, 101]) rfl rfl rfl rfl (by kernel_rfl)
  · exact .inl ⟨(wt_some' rfl rfl rfl rfl (by first | rfl | assumption | exact dT (by omega) | exact dF (by omega))), stepQ_pv (pv_eqlb rfl rfl rfl Try.underlying4) rfl rfl⟩
  apply parW_op (ds := [101, 106]) rfl rfl rfl rfl (by kernel_rfl)
  · exact .inl ⟨(wt_none rfl), stepQ_pv (pv_pick_t rfl rfl (by first | rfl | assumption | exact dT (by omega) | exact dF (by omega)) rfl) rfl rfl⟩
  apply parW_op (ds := [107]) rfl rfl rfl rfl (by kernel_rfl)
  · exact .inl ⟨(wt_none rfl), stepQ_pv (pv_move rfl rfl) rfl rfl⟩
  apply parW_op (ds := [10, 108]) rfl rfl rfl rfl (by kernel_rfl)
  · exact .inl ⟨(wt_some' rfl rfl rfl rfl (by first | rfl | assumption | exact dT (by omega) | exact dF (by omega))), stepQ_pv (pv_move rfl rfl) rfl rfl⟩
  apply parW_op (ds := [3, 108]) rfl rfl rfl rfl (by kernel_rfl)
  · exact .inl ⟨(wt_some' rfl rfl rfl rfl (by first | rfl | assumption | exact dT (by omega) | exact dF (by omega))), stepQ_pv (pv_fa T0 rfl rfl rfl (by simp; rfl)) rfl rfl⟩
  apply parW_op (ds := [110, 108]) rfl rfl rfl rfl (by kernel_rfl)
  · exact .inl ⟨(wt_some' rfl rfl rfl rfl (by first | rfl | assumption | exact dT (by omega) | exact dF (by omega))), stepQ_lv (lv_cl1 T0 rfl rfl rfl (by solve | repeat' constructor) (by first | rfl | assumption)) rfl rfl⟩
  apply parW_op (ds := [111, 108]) rfl rfl rfl rfl (by kernel_rfl)
  · exact .inl ⟨(wt_some' rfl rfl rfl rfl (by first | rfl | assumption | exact dT (by omega) | exact dF (by omega))), stepQ_pv (pv_gtr rfl rfl rfl) rfl rfl⟩
  apply parW_op (ds := [109, 112, 108]) rfl rfl rfl rfl (by kernel_rfl)
  · exact .inl ⟨(wt_some' rfl rfl rfl rfl (by first | rfl | assumption | exact dT (by omega) | exact dF (by omega))), stepQ_pv (pv_eqlb rfl rfl rfl Try.underlying4) rfl rfl⟩
  apply parW_op (ds := [108, 113]) rfl rfl rfl rfl (by kernel_rfl)
  · exact .inl ⟨(wt_none rfl), stepQ_pv (pv_pick_t rfl rfl (by first | rfl | assumption | exact dT (by omega) | exact dF (by omega)) rfl) rfl rfl⟩
  apply parW_op (ds := [114]) rfl rfl rfl rfl (by kernel_rfl)
  · exact .inl ⟨(wt_none rfl), stepQ_pv (pv_move rfl rfl) rfl rfl⟩
  apply parW_op (ds := [115]) rfl rfl rfl rfl (by kernel_rfl)
  · refine .inl ⟨(wt_some' rfl rfl rfl rfl (by first | rfl | assumption | exact dT (by omega) | exact dF (by omega))), ?_⟩
    refine st_call T0 (awake_p) rfl rfl rfl rfl (by first | exact callee_lit | exact callee_v | exact callee_fn | assumption) (by solve | repeat' constructor) (by first | rfl | assumption) rfl ?_
    rintro _ rfl
    exact ⟨_, Ghost.refl, rfl⟩
  apply parW_op (ds := [115, 116]) rfl rfl rfl rfl (by kernel_rfl)
  · exact .inl ⟨(wt_none rfl), stepQ_pv (pv_pick_t rfl rfl (by first | rfl | assumption | exact dT (by omega) | exact dF (by omega)) rfl) rfl rfl⟩
  apply parW_op (ds := [117]) rfl rfl rfl rfl (by kernel_rfl)
  · exact .inl ⟨(wt_none rfl), stepQ_pv (pv_assign rfl rfl) rfl rfl⟩
  refine parW_nil ?_
  exact cut_n ⟨rfl, rfl⟩ (by first | ((repeat' (first | exact True.intro | refine ⟨rfl, ?_⟩)); all_goals fail) | fail) (by solve | repeat' constructor)
end
theorem CornerEnds_p (m : MktD) (hl : m.hou.length ≤ maxLen) (hc : m.con.length ≤ maxLen) : PCall Try.prog 9 [mktA false false m] (fun r => r = boolA true) := by
  have hr := ready_p m hl hc
  clear hl hc
  refine acall_of_awp T0 Try.func9 rfl rfl rfl ?_
  by_cases hf : faultN m = 0
  case neg =>
    rw [decide_eq_false hf] at hr
    repeat (first | refine awp_seq ?_ | refine awp_region_lit rfl ?_)
    refine awl_hw (by first | exact wt_none rfl | exact wt_some' rfl rfl rfl rfl (by first | rfl | assumption | exact dT (by omega) | exact dF (by omega))) (st_box rfl rfl (by first | rfl | assumption) (by first | assumption | (simp only [cellsA]; rfl)) rfl rfl ?_)
    intro g1
    repeat (first | refine awp_seq ?_ | refine awp_region_lit rfl ?_ | ((first | (show AWL _ _ _ (⟨_, .assign _, _, _, _, _⟩ :: _) _ _ _; refine awl_pw ?wtq (pv_assign rfl rfl) rfl rfl ?_) | (show AWL _ _ _ (⟨_, .load _ _, _, _, _, _⟩ :: _) _ _ _; refine awl_lw ?wtq (lv_cla T0 rfl rfl rfl (by solve | repeat' constructor) rfl) rfl rfl rfl ?_)); case wtq => first | exact wt_none rfl | exact wt_some' rfl rfl rfl rfl (by first | rfl | assumption | exact dT (by omega) | exact dF (by omega))) | refine awl_nil ?_)
    refine awl_hw (by first | exact wt_none rfl | exact wt_some' rfl rfl rfl rfl (by first | rfl | assumption | exact dT (by omega) | exact dF (by omega))) (st_call T0 (hr) rfl rfl rfl rfl (by first | exact callee_lit | exact callee_v | exact callee_fn | assumption) (by solve | repeat' constructor) (by first | rfl | assumption) rfl ?_)
    rintro _ rfl
    repeat (first | refine awp_seq ?_ | refine awp_region_lit rfl ?_ | refine then_n ?_ | refine awp_cond_t rfl (by first | rfl | assumption | exact dT (by omega)) ?_ | ((first | (show AWL _ _ _ (⟨_, .unOp .not _ _, _, _, _, _⟩ :: _) _ _ _; refine awl_pw ?wtq (pv_not rfl rfl) rfl rfl ?_)); case wtq => first | exact wt_none rfl | exact wt_some' rfl rfl rfl rfl (by first | rfl | assumption | exact dT (by omega) | exact dF (by omega))) | refine awl_nil ?_)
    refine awl_hw (by first | exact wt_none rfl | exact wt_some' rfl rfl rfl rfl (by first | rfl | assumption | exact dT (by omega) | exact dF (by omega))) (st_call T0 (awake_p) rfl rfl rfl rfl (by first | exact callee_lit | exact callee_v | exact callee_fn | assumption) (by solve | repeat' constructor) (by first | rfl | assumption) rfl ?_)
    rintro _ rfl
    repeat (first | refine awp_ret ?_ | refine then_r ?_ | ((first | (show AWL _ _ _ (⟨_, .assign _, _, _, _, _⟩ :: _) _ _ _; refine awl_pw ?wtq (pv_assign rfl rfl) rfl rfl ?_)); case wtq => first | exact wt_none rfl | exact wt_some' rfl rfl rfl rfl (by first | rfl | assumption | exact dT (by omega) | exact dF (by omega))) | refine awl_nil ?_)
    exact body_p (.cons rfl .nil) rfl
  have hv := vmkt hf
  have hlen := hv.len
  have hclen := hv.clen
  rw [decide_eq_true hf] at hr
  have hM := market_p m (by omega) (by omega)
  have hS := Shortage_p true true m (by omega) (by omega)
  have hC := Cornered_p true true m (by omega) (by omega)
  have hH := refhas_p false false m hv
  cases e : possB m
  · rw [e] at hH
    rw [asked_no hf e] at hS hC
    have hW := fun b => Show_no true true m b (by omega) (by omega) (by rw [asked_no hf e]; decide)
    rw [asked_no hf e] at hW
    replace hS : PCall Try.prog 29 [mktA true true m] (fun r => r = .tup [.ag [intA 0, intA 0], intA 9]) := hS
    replace hC : PCall Try.prog 31 [mktA true true m] (fun r => r = .tup [boolA (decide ((0 : Int) < 0)), boolA (decide ((0 : Int) < 0)), intA 9]) := hC
    replace hW : ∀ b, PCall Try.prog 30 [mktA true true m, boolA b] (fun r => r = .tup [.t (intsT true []), intA 9]) := hW
    repeat (first | refine awp_seq ?_ | refine awp_region_lit rfl ?_)
    refine awl_hw (by first | exact wt_none rfl | exact wt_some' rfl rfl rfl rfl (by first | rfl | assumption | exact dT (by omega) | exact dF (by omega))) (st_box rfl rfl (by first | rfl | assumption) (by first | assumption | (simp only [cellsA]; rfl)) rfl rfl ?_)
    intro g1
    repeat (first | refine awp_seq ?_ | refine awp_region_lit rfl ?_ | ((first | (show AWL _ _ _ (⟨_, .assign _, _, _, _, _⟩ :: _) _ _ _; refine awl_pw ?wtq (pv_assign rfl rfl) rfl rfl ?_) | (show AWL _ _ _ (⟨_, .load _ _, _, _, _, _⟩ :: _) _ _ _; refine awl_lw ?wtq (lv_cla T0 rfl rfl rfl (by solve | repeat' constructor) rfl) rfl rfl rfl ?_)); case wtq => first | exact wt_none rfl | exact wt_some' rfl rfl rfl rfl (by first | rfl | assumption | exact dT (by omega) | exact dF (by omega))) | refine awl_nil ?_)
    refine awl_hw (by first | exact wt_none rfl | exact wt_some' rfl rfl rfl rfl (by first | rfl | assumption | exact dT (by omega) | exact dF (by omega))) (st_call T0 (hr) rfl rfl rfl rfl (by first | exact callee_lit | exact callee_v | exact callee_fn | assumption) (by solve | repeat' constructor) (by first | rfl | assumption) rfl ?_)
    rintro _ rfl
    repeat (first | refine awp_seq ?_ | refine awp_region_lit rfl ?_ | refine awp_skip ?_ | refine then_n ?_ | refine awp_cond_f rfl (by first | rfl | assumption | exact dF (by omega)) ?_ | ((first | (show AWL _ _ _ (⟨_, .load _ _, _, _, _, _⟩ :: _) _ _ _; refine awl_lw ?wtq (lv_cla T0 rfl rfl rfl (by solve | repeat' constructor) rfl) rfl rfl rfl ?_) | (show AWL _ _ _ (⟨_, .unOp .not _ _, _, _, _, _⟩ :: _) _ _ _; refine awl_pw ?wtq (pv_not rfl rfl) rfl rfl ?_)); case wtq => first | exact wt_none rfl | exact wt_some' rfl rfl rfl rfl (by first | rfl | assumption | exact dT (by omega) | exact dF (by omega))) | refine awl_nil ?_)
    refine awl_hw (by first | exact wt_none rfl | exact wt_some' rfl rfl rfl rfl (by first | rfl | assumption | exact dT (by omega) | exact dF (by omega))) (st_call T0 (hM) rfl rfl rfl rfl (by first | exact callee_lit | exact callee_v | exact callee_fn | assumption) (by solve | repeat' constructor) (by first | rfl | assumption) rfl ?_)
    rintro _ rfl
    skip
    refine awl_hw (by first | exact wt_none rfl | exact wt_some' rfl rfl rfl rfl (by first | rfl | assumption | exact dT (by omega) | exact dF (by omega))) (st_call T0 (hS) rfl rfl rfl rfl (by first | exact callee_lit | exact callee_v | exact callee_fn | assumption) (by solve | repeat' constructor) (by first | rfl | assumption) rfl ?_)
    rintro _ rfl
    repeat (first | ((first | (show AWL _ _ _ (⟨_, .move _, _, _, _, _⟩ :: _) _ _ _; refine awl_pw ?wtq (pv_move rfl rfl) rfl rfl ?_) | (show AWL _ _ _ (⟨_, .extract _ _, _, _, _, _⟩ :: _) _ _ _; refine awl_pw ?wtq (pv_extract rfl rfl rfl) rfl rfl ?_)); case wtq => first | exact wt_none rfl | exact wt_some' rfl rfl rfl rfl (by first | rfl | assumption | exact dT (by omega) | exact dF (by omega))))
    refine awl_hw (by first | exact wt_none rfl | exact wt_some' rfl rfl rfl rfl (by first | rfl | assumption | exact dT (by omega) | exact dF (by omega))) (st_alloc T0 rfl rfl rfl rfl (by simp only [Value.cells, List.toList_toArray, List.map_cons, List.map_nil]; rfl) ?_)
    intro g3
    repeat (first | refine awp_seq ?_ | refine awp_region_lit rfl ?_ | ((first | (show AWL _ _ _ (⟨_, .assign _, _, _, _, _⟩ :: _) _ _ _; refine awl_pw ?wtq (pv_assign rfl rfl) rfl rfl ?_) | (show AWL _ _ _ (⟨_, .load _ _, _, _, _, _⟩ :: _) _ _ _; refine awl_lw ?wtq (lv_cla T0 rfl rfl rfl (by solve | repeat' constructor) rfl) rfl rfl rfl ?_)); case wtq => first | exact wt_none rfl | exact wt_some' rfl rfl rfl rfl (by first | rfl | assumption | exact dT (by omega) | exact dF (by omega))) | (show AWL _ _ _ (⟨_, .store _ _ _, _, _, _, _⟩ :: _) _ _ _; refine awl_hw (by first | exact wt_none rfl | exact wt_some' rfl rfl rfl rfl (by first | rfl | assumption | exact dT (by omega) | exact dF (by omega))) (st_store T0 rfl rfl rfl rfl rfl (by first | assumption | (simp only [cellsA]; rfl)) rfl rfl rfl (by solve | repeat' constructor) (by solve | repeat' constructor) trivial ?_)) | refine awl_nil ?_)
    refine awl_hw (by first | exact wt_none rfl | exact wt_some' rfl rfl rfl rfl (by first | rfl | assumption | exact dT (by omega) | exact dF (by omega))) (st_call T0 (hM) rfl rfl rfl rfl (by first | exact callee_lit | exact callee_v | exact callee_fn | assumption) (by solve | repeat' constructor) (by first | rfl | assumption) rfl ?_)
    rintro _ rfl
    skip
    refine awl_hw (by first | exact wt_none rfl | exact wt_some' rfl rfl rfl rfl (by first | rfl | assumption | exact dT (by omega) | exact dF (by omega))) (st_call T0 (hW false) rfl rfl rfl rfl (by first | exact callee_lit | exact callee_v | exact callee_fn | assumption) (by solve | repeat' constructor) (by first | rfl | assumption) rfl ?_)
    rintro _ rfl
    repeat (first | refine awp_seq ?_ | refine awp_region_lit rfl ?_ | ((first | (show AWL _ _ _ (⟨_, .move _, _, _, _, _⟩ :: _) _ _ _; refine awl_pw ?wtq (pv_move rfl rfl) rfl rfl ?_) | (show AWL _ _ _ (⟨_, .assign _, _, _, _, _⟩ :: _) _ _ _; refine awl_pw ?wtq (pv_assign rfl rfl) rfl rfl ?_) | (show AWL _ _ _ (⟨_, .load _ _, _, _, _, _⟩ :: _) _ _ _; refine awl_lw ?wtq (lv_cla T0 rfl rfl rfl (by solve | repeat' constructor) rfl) rfl rfl rfl ?_) | (show AWL _ _ _ (⟨_, .extract _ _, _, _, _, _⟩ :: _) _ _ _; refine awl_pw ?wtq (pv_extract rfl rfl rfl) rfl rfl ?_)); case wtq => first | exact wt_none rfl | exact wt_some' rfl rfl rfl rfl (by first | rfl | assumption | exact dT (by omega) | exact dF (by omega))) | refine awl_nil ?_)
    refine awl_hw (by first | exact wt_none rfl | exact wt_some' rfl rfl rfl rfl (by first | rfl | assumption | exact dT (by omega) | exact dF (by omega))) (st_call T0 (hM) rfl rfl rfl rfl (by first | exact callee_lit | exact callee_v | exact callee_fn | assumption) (by solve | repeat' constructor) (by first | rfl | assumption) rfl ?_)
    rintro _ rfl
    skip
    refine awl_hw (by first | exact wt_none rfl | exact wt_some' rfl rfl rfl rfl (by first | rfl | assumption | exact dT (by omega) | exact dF (by omega))) (st_call T0 (hW true) rfl rfl rfl rfl (by first | exact callee_lit | exact callee_v | exact callee_fn | assumption) (by solve | repeat' constructor) (by first | rfl | assumption) rfl ?_)
    rintro _ rfl
    repeat (first | refine awp_seq ?_ | refine awp_region_lit rfl ?_ | ((first | (show AWL _ _ _ (⟨_, .move _, _, _, _, _⟩ :: _) _ _ _; refine awl_pw ?wtq (pv_move rfl rfl) rfl rfl ?_) | (show AWL _ _ _ (⟨_, .assign _, _, _, _, _⟩ :: _) _ _ _; refine awl_pw ?wtq (pv_assign rfl rfl) rfl rfl ?_) | (show AWL _ _ _ (⟨_, .load _ _, _, _, _, _⟩ :: _) _ _ _; refine awl_lw ?wtq (lv_cla T0 rfl rfl rfl (by solve | repeat' constructor) rfl) rfl rfl rfl ?_) | (show AWL _ _ _ (⟨_, .extract _ _, _, _, _, _⟩ :: _) _ _ _; refine awl_pw ?wtq (pv_extract rfl rfl rfl) rfl rfl ?_)); case wtq => first | exact wt_none rfl | exact wt_some' rfl rfl rfl rfl (by first | rfl | assumption | exact dT (by omega) | exact dF (by omega))) | refine awl_nil ?_)
    refine awl_hw (by first | exact wt_none rfl | exact wt_some' rfl rfl rfl rfl (by first | rfl | assumption | exact dT (by omega) | exact dF (by omega))) (st_call T0 (hM) rfl rfl rfl rfl (by first | exact callee_lit | exact callee_v | exact callee_fn | assumption) (by solve | repeat' constructor) (by first | rfl | assumption) rfl ?_)
    rintro _ rfl
    skip
    refine awl_hw (by first | exact wt_none rfl | exact wt_some' rfl rfl rfl rfl (by first | rfl | assumption | exact dT (by omega) | exact dF (by omega))) (st_call T0 (hC) rfl rfl rfl rfl (by first | exact callee_lit | exact callee_v | exact callee_fn | assumption) (by solve | repeat' constructor) (by first | rfl | assumption) rfl ?_)
    rintro _ rfl
    repeat (first | refine awp_seq ?_ | refine awp_region_lit rfl ?_ | ((first | (show AWL _ _ _ (⟨_, .move _, _, _, _, _⟩ :: _) _ _ _; refine awl_pw ?wtq (pv_move rfl rfl) rfl rfl ?_) | (show AWL _ _ _ (⟨_, .assign _, _, _, _, _⟩ :: _) _ _ _; refine awl_pw ?wtq (pv_assign rfl rfl) rfl rfl ?_) | (show AWL _ _ _ (⟨_, .load _ _, _, _, _, _⟩ :: _) _ _ _; refine awl_lw ?wtq (lv_cla T0 rfl rfl rfl (by solve | repeat' constructor) rfl) rfl rfl rfl ?_) | (show AWL _ _ _ (⟨_, .extract _ _, _, _, _, _⟩ :: _) _ _ _; refine awl_pw ?wtq (pv_extract rfl rfl rfl) rfl rfl ?_)); case wtq => first | exact wt_none rfl | exact wt_some' rfl rfl rfl rfl (by first | rfl | assumption | exact dT (by omega) | exact dF (by omega))) | refine awl_nil ?_)
    refine awl_hw (by first | exact wt_none rfl | exact wt_some' rfl rfl rfl rfl (by first | rfl | assumption | exact dT (by omega) | exact dF (by omega))) (st_call T0 (hH) rfl rfl rfl rfl (by first | exact callee_lit | exact callee_v | exact callee_fn | assumption) (by solve | repeat' constructor) (by first | rfl | assumption) rfl ?_)
    rintro _ rfl
    repeat (first | refine awp_seq ?_ | refine awp_region_lit rfl ?_ | refine then_n ?_ | refine awp_cond_t rfl (by first | rfl | assumption | exact dT (by omega)) ?_ | ((first | (show AWL _ _ _ (⟨_, .move _, _, _, _, _⟩ :: _) _ _ _; refine awl_pw ?wtq (pv_move rfl rfl) rfl rfl ?_) | (show AWL _ _ _ (⟨_, .binOp .eql _ _ _ _, _, _, _, _⟩ :: _) _ _ _; refine awl_pw ?wtq (pv_eql rfl rfl rfl) rfl rfl ?_) | (show AWL _ _ _ (⟨_, .unOp .not _ _, _, _, _, _⟩ :: _) _ _ _; refine awl_pw ?wtq (pv_not rfl rfl) rfl rfl ?_) | (show AWL _ _ _ (⟨_, .pick _ _ _, _, _, _, _⟩ :: _) _ _ _; refine awl_pw ?wtq (pv_pick_t rfl rfl (by first | rfl | assumption | exact dT (by omega) | exact dF (by omega)) rfl) rfl rfl ?_)); case wtq => first | exact wt_none rfl | exact wt_some' rfl rfl rfl rfl (by first | rfl | assumption | exact dT (by omega) | exact dF (by omega))) | refine awl_nil ?_)
    refine awl_hw (by first | exact wt_none rfl | exact wt_some' rfl rfl rfl rfl (by first | rfl | assumption | exact dT (by omega) | exact dF (by omega))) (st_call T0 (awake_p) rfl rfl rfl rfl (by first | exact callee_lit | exact callee_v | exact callee_fn | assumption) (by solve | repeat' constructor) (by first | rfl | assumption) rfl ?_)
    rintro _ rfl
    repeat (first | refine awp_ret ?_ | refine then_r ?_ | ((first | (show AWL _ _ _ (⟨_, .assign _, _, _, _, _⟩ :: _) _ _ _; refine awl_pw ?wtq (pv_assign rfl rfl) rfl rfl ?_) | (show AWL _ _ _ (⟨_, .pick _ _ _, _, _, _, _⟩ :: _) _ _ _; refine awl_pw ?wtq (pv_pick_t rfl rfl (by first | rfl | assumption | exact dT (by omega) | exact dF (by omega)) rfl) rfl rfl ?_)); case wtq => first | exact wt_none rfl | exact wt_some' rfl rfl rfl rfl (by first | rfl | assumption | exact dT (by omega) | exact dF (by omega))) | refine awl_nil ?_)
    exact body_p (.cons rfl .nil) rfl
  · rw [e] at hH
    rw [asked_yes hf e] at hS hC
    have hW := fun b => Show_p true true m b (by omega) (by omega) (by rw [asked_yes hf e])
    replace hS : PCall Try.prog 29 [mktA true true m] (fun r => r = .tup [.ag [intA (lowN m), intA (highN m)], intA 0]) := hS
    replace hC : PCall Try.prog 31 [mktA true true m] (fun r => r = .tup [boolA (decide (0 < lowN m)), boolA (decide (0 < highN m)), intA 0]) := hC
    repeat (first | refine awp_seq ?_ | refine awp_region_lit rfl ?_)
    refine awl_hw (by first | exact wt_none rfl | exact wt_some' rfl rfl rfl rfl (by first | rfl | assumption | exact dT (by omega) | exact dF (by omega))) (st_box rfl rfl (by first | rfl | assumption) (by first | assumption | (simp only [cellsA]; rfl)) rfl rfl ?_)
    intro g1
    repeat (first | refine awp_seq ?_ | refine awp_region_lit rfl ?_ | ((first | (show AWL _ _ _ (⟨_, .assign _, _, _, _, _⟩ :: _) _ _ _; refine awl_pw ?wtq (pv_assign rfl rfl) rfl rfl ?_) | (show AWL _ _ _ (⟨_, .load _ _, _, _, _, _⟩ :: _) _ _ _; refine awl_lw ?wtq (lv_cla T0 rfl rfl rfl (by solve | repeat' constructor) rfl) rfl rfl rfl ?_)); case wtq => first | exact wt_none rfl | exact wt_some' rfl rfl rfl rfl (by first | rfl | assumption | exact dT (by omega) | exact dF (by omega))) | refine awl_nil ?_)
    refine awl_hw (by first | exact wt_none rfl | exact wt_some' rfl rfl rfl rfl (by first | rfl | assumption | exact dT (by omega) | exact dF (by omega))) (st_call T0 (hr) rfl rfl rfl rfl (by first | exact callee_lit | exact callee_v | exact callee_fn | assumption) (by solve | repeat' constructor) (by first | rfl | assumption) rfl ?_)
    rintro _ rfl
    repeat (first | refine awp_seq ?_ | refine awp_region_lit rfl ?_ | refine awp_skip ?_ | refine then_n ?_ | refine awp_cond_f rfl (by first | rfl | assumption | exact dF (by omega)) ?_ | ((first | (show AWL _ _ _ (⟨_, .load _ _, _, _, _, _⟩ :: _) _ _ _; refine awl_lw ?wtq (lv_cla T0 rfl rfl rfl (by solve | repeat' constructor) rfl) rfl rfl rfl ?_) | (show AWL _ _ _ (⟨_, .unOp .not _ _, _, _, _, _⟩ :: _) _ _ _; refine awl_pw ?wtq (pv_not rfl rfl) rfl rfl ?_)); case wtq => first | exact wt_none rfl | exact wt_some' rfl rfl rfl rfl (by first | rfl | assumption | exact dT (by omega) | exact dF (by omega))) | refine awl_nil ?_)
    refine awl_hw (by first | exact wt_none rfl | exact wt_some' rfl rfl rfl rfl (by first | rfl | assumption | exact dT (by omega) | exact dF (by omega))) (st_call T0 (hM) rfl rfl rfl rfl (by first | exact callee_lit | exact callee_v | exact callee_fn | assumption) (by solve | repeat' constructor) (by first | rfl | assumption) rfl ?_)
    rintro _ rfl
    skip
    refine awl_hw (by first | exact wt_none rfl | exact wt_some' rfl rfl rfl rfl (by first | rfl | assumption | exact dT (by omega) | exact dF (by omega))) (st_call T0 (hS) rfl rfl rfl rfl (by first | exact callee_lit | exact callee_v | exact callee_fn | assumption) (by solve | repeat' constructor) (by first | rfl | assumption) rfl ?_)
    rintro _ rfl
    repeat (first | ((first | (show AWL _ _ _ (⟨_, .move _, _, _, _, _⟩ :: _) _ _ _; refine awl_pw ?wtq (pv_move rfl rfl) rfl rfl ?_) | (show AWL _ _ _ (⟨_, .extract _ _, _, _, _, _⟩ :: _) _ _ _; refine awl_pw ?wtq (pv_extract rfl rfl rfl) rfl rfl ?_)); case wtq => first | exact wt_none rfl | exact wt_some' rfl rfl rfl rfl (by first | rfl | assumption | exact dT (by omega) | exact dF (by omega))))
    refine awl_hw (by first | exact wt_none rfl | exact wt_some' rfl rfl rfl rfl (by first | rfl | assumption | exact dT (by omega) | exact dF (by omega))) (st_alloc T0 rfl rfl rfl rfl (by simp only [Value.cells, List.toList_toArray, List.map_cons, List.map_nil]; rfl) ?_)
    intro g3
    repeat (first | refine awp_seq ?_ | refine awp_region_lit rfl ?_ | ((first | (show AWL _ _ _ (⟨_, .assign _, _, _, _, _⟩ :: _) _ _ _; refine awl_pw ?wtq (pv_assign rfl rfl) rfl rfl ?_) | (show AWL _ _ _ (⟨_, .load _ _, _, _, _, _⟩ :: _) _ _ _; refine awl_lw ?wtq (lv_cla T0 rfl rfl rfl (by solve | repeat' constructor) rfl) rfl rfl rfl ?_)); case wtq => first | exact wt_none rfl | exact wt_some' rfl rfl rfl rfl (by first | rfl | assumption | exact dT (by omega) | exact dF (by omega))) | (show AWL _ _ _ (⟨_, .store _ _ _, _, _, _, _⟩ :: _) _ _ _; refine awl_hw (by first | exact wt_none rfl | exact wt_some' rfl rfl rfl rfl (by first | rfl | assumption | exact dT (by omega) | exact dF (by omega))) (st_store T0 rfl rfl rfl rfl rfl (by first | assumption | (simp only [cellsA]; rfl)) rfl rfl rfl (by solve | repeat' constructor) (by solve | repeat' constructor) trivial ?_)) | refine awl_nil ?_)
    refine awl_hw (by first | exact wt_none rfl | exact wt_some' rfl rfl rfl rfl (by first | rfl | assumption | exact dT (by omega) | exact dF (by omega))) (st_call T0 (hM) rfl rfl rfl rfl (by first | exact callee_lit | exact callee_v | exact callee_fn | assumption) (by solve | repeat' constructor) (by first | rfl | assumption) rfl ?_)
    rintro _ rfl
    skip
    refine awl_hw (by first | exact wt_none rfl | exact wt_some' rfl rfl rfl rfl (by first | rfl | assumption | exact dT (by omega) | exact dF (by omega))) (st_call T0 (hW false) rfl rfl rfl rfl (by first | exact callee_lit | exact callee_v | exact callee_fn | assumption) (by solve | repeat' constructor) (by first | rfl | assumption) rfl ?_)
    rintro r ⟨t1, h1, e1, rfl⟩
    repeat (first | refine awp_seq ?_ | refine awp_region_lit rfl ?_ | ((first | (show AWL _ _ _ (⟨_, .move _, _, _, _, _⟩ :: _) _ _ _; refine awl_pw ?wtq (pv_move rfl rfl) rfl rfl ?_) | (show AWL _ _ _ (⟨_, .assign _, _, _, _, _⟩ :: _) _ _ _; refine awl_pw ?wtq (pv_assign rfl rfl) rfl rfl ?_) | (show AWL _ _ _ (⟨_, .load _ _, _, _, _, _⟩ :: _) _ _ _; refine awl_lw ?wtq (lv_cla T0 rfl rfl rfl (by solve | repeat' constructor) rfl) rfl rfl rfl ?_) | (show AWL _ _ _ (⟨_, .extract _ _, _, _, _, _⟩ :: _) _ _ _; refine awl_pw ?wtq (pv_extract rfl rfl rfl) rfl rfl ?_)); case wtq => first | exact wt_none rfl | exact wt_some' rfl rfl rfl rfl (by first | rfl | assumption | exact dT (by omega) | exact dF (by omega))) | refine awl_nil ?_)
    refine awl_hw (by first | exact wt_none rfl | exact wt_some' rfl rfl rfl rfl (by first | rfl | assumption | exact dT (by omega) | exact dF (by omega))) (st_call T0 (hM) rfl rfl rfl rfl (by first | exact callee_lit | exact callee_v | exact callee_fn | assumption) (by solve | repeat' constructor) (by first | rfl | assumption) rfl ?_)
    rintro _ rfl
    skip
    refine awl_hw (by first | exact wt_none rfl | exact wt_some' rfl rfl rfl rfl (by first | rfl | assumption | exact dT (by omega) | exact dF (by omega))) (st_call T0 (hW true) rfl rfl rfl rfl (by first | exact callee_lit | exact callee_v | exact callee_fn | assumption) (by solve | repeat' constructor) (by first | rfl | assumption) rfl ?_)
    rintro r ⟨t2, h2, e2, rfl⟩
    repeat (first | refine awp_seq ?_ | refine awp_region_lit rfl ?_ | ((first | (show AWL _ _ _ (⟨_, .move _, _, _, _, _⟩ :: _) _ _ _; refine awl_pw ?wtq (pv_move rfl rfl) rfl rfl ?_) | (show AWL _ _ _ (⟨_, .assign _, _, _, _, _⟩ :: _) _ _ _; refine awl_pw ?wtq (pv_assign rfl rfl) rfl rfl ?_) | (show AWL _ _ _ (⟨_, .load _ _, _, _, _, _⟩ :: _) _ _ _; refine awl_lw ?wtq (lv_cla T0 rfl rfl rfl (by solve | repeat' constructor) rfl) rfl rfl rfl ?_) | (show AWL _ _ _ (⟨_, .extract _ _, _, _, _, _⟩ :: _) _ _ _; refine awl_pw ?wtq (pv_extract rfl rfl rfl) rfl rfl ?_)); case wtq => first | exact wt_none rfl | exact wt_some' rfl rfl rfl rfl (by first | rfl | assumption | exact dT (by omega) | exact dF (by omega))) | refine awl_nil ?_)
    refine awl_hw (by first | exact wt_none rfl | exact wt_some' rfl rfl rfl rfl (by first | rfl | assumption | exact dT (by omega) | exact dF (by omega))) (st_call T0 (hM) rfl rfl rfl rfl (by first | exact callee_lit | exact callee_v | exact callee_fn | assumption) (by solve | repeat' constructor) (by first | rfl | assumption) rfl ?_)
    rintro _ rfl
    skip
    refine awl_hw (by first | exact wt_none rfl | exact wt_some' rfl rfl rfl rfl (by first | rfl | assumption | exact dT (by omega) | exact dF (by omega))) (st_call T0 (hC) rfl rfl rfl rfl (by first | exact callee_lit | exact callee_v | exact callee_fn | assumption) (by solve | repeat' constructor) (by first | rfl | assumption) rfl ?_)
    rintro _ rfl
    repeat (first | refine awp_seq ?_ | refine awp_region_lit rfl ?_ | ((first | (show AWL _ _ _ (⟨_, .move _, _, _, _, _⟩ :: _) _ _ _; refine awl_pw ?wtq (pv_move rfl rfl) rfl rfl ?_) | (show AWL _ _ _ (⟨_, .assign _, _, _, _, _⟩ :: _) _ _ _; refine awl_pw ?wtq (pv_assign rfl rfl) rfl rfl ?_) | (show AWL _ _ _ (⟨_, .load _ _, _, _, _, _⟩ :: _) _ _ _; refine awl_lw ?wtq (lv_cla T0 rfl rfl rfl (by solve | repeat' constructor) rfl) rfl rfl rfl ?_) | (show AWL _ _ _ (⟨_, .extract _ _, _, _, _, _⟩ :: _) _ _ _; refine awl_pw ?wtq (pv_extract rfl rfl rfl) rfl rfl ?_)); case wtq => first | exact wt_none rfl | exact wt_some' rfl rfl rfl rfl (by first | rfl | assumption | exact dT (by omega) | exact dF (by omega))) | refine awl_nil ?_)
    refine awl_hw (by first | exact wt_none rfl | exact wt_some' rfl rfl rfl rfl (by first | rfl | assumption | exact dT (by omega) | exact dF (by omega))) (st_call T0 (hH) rfl rfl rfl rfl (by first | exact callee_lit | exact callee_v | exact callee_fn | assumption) (by solve | repeat' constructor) (by first | rfl | assumption) rfl ?_)
    rintro _ rfl
    repeat (first | refine awp_seq ?_ | refine awp_skip ?_ | refine then_n ?_ | refine awp_cond_f rfl (by first | rfl | assumption | exact dF (by omega)) ?_ | ((first | (show AWL _ _ _ (⟨_, .unOp .not _ _, _, _, _, _⟩ :: _) _ _ _; refine awl_pw ?wtq (pv_not rfl rfl) rfl rfl ?_)); case wtq => first | exact wt_none rfl | exact wt_some' rfl rfl rfl rfl (by first | rfl | assumption | exact dT (by omega) | exact dF (by omega))) | refine awl_nil ?_)
    refine awp_cut _ (awp_weak (by first | ((repeat' (first | exact True.intro | refine ⟨rfl, ?_⟩)); all_goals fail) | fail) (by solve | repeat' constructor) (lc_9 (g1 := g1) (g3 := g3) hv h1 e1 h2 e2 rfl)) ?_
    rintro s h ⟨rfl, rfl⟩
    repeat (first | refine awp_ret ?_)
    exact body_p (.cons rfl .nil) rfl
end Go.Proofs.Ytallicfckbdeaaa
