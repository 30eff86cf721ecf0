/- The law CornerTruth (Try.func8): its regions. -/
import Derived.Test.YtallicfckbdeaaaLg
import Derived.Test.YtallicfckbdeaaaLd
import Derived.Test.YtallicfckbdeaaaXf
import Derived.Test.YtallicfckbdeaaaGTy
import Derived.Test.YtallicfckbdeaaaGTs
import Derived.Test.YtallicfckbdeaaaGPa
namespace Go.Proofs.Ytallicfckbdeaaa
open Go Go.RowKit Go.Tl
set_option linter.unusedVariables false
set_option linter.unusedSimpArgs false
set_option maxRecDepth 100000
set_option maxHeartbeats 4000000
theorem posL_at {m : MktD} {t : List Int} {n i : Nat} (h : i < n) : (posL m t n).getD i 0 = posN m t i := by simp [posL, List.getD_eq_getElem?_getD, h]
theorem posL_sum (m : MktD) (t : List Int) : sumK (posL m t m.hou.length) m.hou.length = sumF (posN m t) m.hou.length := sumK_map _ _ _ (Nat.le_refl _)
attribute [local irreducible] AWP AWL AOp PV LV AWT AWE
section
variable {n k g2 g9 : Nat} {N S P t : List Int} {a b c x lo hi : Int} {u2 u5 u9 u11 u12 u14 u15 u16 u19 u20 : AV} {sure may : Bool} {m : MktD} {rest : List Ent}
/-- what the law asks of a house, with its need, spare shares and position -/
theorem li_16 (hn : k < N.length) (hs : k < S.length) (hp : k < P.length) (hl : N.length ≤ 1000 ∧ S.length ≤ 1000 ∧ P.length ≤ 1000) (ea : N.getD k 0 = a) (eb : S.getD k 0 = b) (ec : P.getD k 0 = c) (hh : 0 ≤ a ∧ a ≤ 1000000 ∧ 0 ≤ b ∧ b ≤ 1000000) (h1 : 0 < a → c = -a) (h2 : 0 < b → c = b) (h3 : a = 0 → 0 ≤ c) {ops : Array Oper} (h : regF Try.f8 16 = some ops) :
    AWP Try.prog Try.f8.ntmps none (.region 16 ops true) (cutQ (fun s h => s = [(194, boolA false), (2, u2), (5, u5), (6, .t (intsT true N)), (7, .t (intsT true S)), (9, u9), (11, u11), (12, u12), (14, u14), (15, u15), (16, u16), (19, u19), (20, .t (intsT true P)), (21, intA k)] ∧ h = rest))
      [(2, u2), (5, u5), (6, .t (intsT true N)), (7, .t (intsT true S)), (9, u9), (11, u11), (12, u12), (14, u14), (15, u15), (16, u16), (19, u19), (20, .t (intsT true P)), (21, intA k)] rest := by
  cases h
  have n1 : decide (N.getD k 0 < 0) = false := decide_eq_false (by omega)
  have n2 : decide (S.getD k 0 < 0) = false := decide_eq_false (by omega)
  by_cases ca : 0 < a
  · have d1 : decide (0 < N.getD k 0) = true := decide_eq_true (by omega)
    have d2 : decide (P.getD k 0 ≠ -N.getD k 0) = false := decide_eq_false (by have := h1 ca; omega)
    have d5 : decide (N.getD k 0 = 0) = false := decide_eq_false (by omega)
    by_cases cb : 0 < b
    · exfalso; have := h1 ca; have := h2 cb; omega
    have d3 : decide (0 < S.getD k 0) = false := decide_eq_false (by omega)
    refine awp_par T0 (l := (0 :: 1 :: 2 :: 3 :: 4 :: 5 :: 6 :: 7 :: 8 :: 9 :: 10 :: 11 :: 12 :: 13 :: 14 :: 15 :: 16 :: 17 :: 18 :: 19 :: 20 :: 21 :: 22 :: 23 :: 24 :: 25 :: 26 :: 27 :: 28 :: 29 :: 30 :: 31 :: 32 :: 33 :: 34 :: 35 :: 36 :: 37 :: 38 :: 39 :: 40 :: 41 :: 42 :: 43 :: 44 :: 45 :: 46 :: 47 :: 48 :: 49 :: 50 :: 51 :: 52 :: 53 :: 54 :: 55 :: 56 :: 57 :: 58 :: 59 :: 60 :: 61 :: 62 :: [])) rfl (by kernel_rfl) (by kernel_rfl) ?_
    apply parW_op (ds := [6]) rfl rfl rfl rfl (by kernel_rfl)
    · exact .inl ⟨(wt_none rfl), stepQ_pv (pv_move rfl rfl) rfl rfl⟩
    apply parW_op (ds := [21]) rfl rfl rfl rfl (by kernel_rfl)
    · exact .inl ⟨(wt_none rfl), stepQ_pv (pv_move rfl rfl) rfl rfl⟩
    apply parW_op (ds := [132, 133]) rfl rfl rfl rfl (by kernel_rfl)
    · exact .inl ⟨(wt_none rfl), stepQ_pv (pv_ix_t T0 rfl rfl rfl rfl (by omega) ixA) rfl rfl⟩
    apply parW_op (ds := [134]) rfl rfl rfl rfl (by kernel_rfl)
    · exact .inl ⟨(wt_none rfl), stepQ_lv (lv_elt_sc T0 rfl rfl rfl rfl) rfl rfl⟩
    apply parW_op (ds := [135]) rfl rfl rfl rfl (by kernel_rfl)
    · exact .inl ⟨(wt_none rfl), stepQ_pv (pv_lss rfl rfl rfl) rfl rfl⟩
    apply parW_op (ds := [136]) rfl rfl rfl rfl (by kernel_rfl)
    · exact .inl ⟨(wt_none rfl), stepQ_pv (pv_move rfl rfl) rfl rfl⟩
    apply parW_op (ds := [7, 137]) rfl rfl rfl rfl (by kernel_rfl)
    · exact .inl ⟨wtS, stepQ_pv (pv_move rfl rfl) rfl rfl⟩
    apply parW_op (ds := [21, 137]) rfl rfl rfl rfl (by kernel_rfl)
    · exact .inl ⟨wtS, stepQ_pv (pv_move rfl rfl) rfl rfl⟩
    apply parW_op (ds := [138, 139, 137]) rfl rfl rfl rfl (by kernel_rfl)
    · exact .inl ⟨wtS, stepQ_pv (pv_ix_t T0 rfl rfl rfl rfl (by omega) ixA) rfl rfl⟩
    apply parW_op (ds := [140, 137]) rfl rfl rfl rfl (by kernel_rfl)
    · exact .inl ⟨wtS, stepQ_lv (lv_elt_sc T0 rfl rfl rfl rfl) rfl rfl⟩
    apply parW_op (ds := [141, 137]) rfl rfl rfl rfl (by kernel_rfl)
    · exact .inl ⟨wtS, stepQ_pv (pv_lss rfl rfl rfl) rfl rfl⟩
    apply parW_op (ds := [137, 142]) rfl rfl rfl rfl (by kernel_rfl)
    · exact .inl ⟨(wt_none rfl), stepQ_pv (pv_pick_f rfl rfl tfA rfl) rfl rfl⟩
    apply parW_op (ds := [143]) rfl rfl rfl rfl (by kernel_rfl)
    · exact .inl ⟨(wt_none rfl), stepQ_pv (pv_move rfl rfl) rfl rfl⟩
    apply parW_op (ds := [6, 144]) rfl rfl rfl rfl (by kernel_rfl)
    · exact .inl ⟨wtS, stepQ_pv (pv_move rfl rfl) rfl rfl⟩
    apply parW_op (ds := [21, 144]) rfl rfl rfl rfl (by kernel_rfl)
    · exact .inl ⟨wtS, stepQ_pv (pv_move rfl rfl) rfl rfl⟩
    apply parW_op (ds := [145, 146, 144]) rfl rfl rfl rfl (by kernel_rfl)
    · exact .inl ⟨wtS, stepQ_pv (pv_ix_t T0 rfl rfl rfl rfl (by omega) ixA) rfl rfl⟩
    apply parW_op (ds := [147, 144]) rfl rfl rfl rfl (by kernel_rfl)
    · exact .inl ⟨wtS, stepQ_lv (lv_elt_sc T0 rfl rfl rfl rfl) rfl rfl⟩
    apply parW_op (ds := [148, 144]) rfl rfl rfl rfl (by kernel_rfl)
    · exact .inl ⟨wtS, stepQ_pv (pv_gtr rfl rfl rfl) rfl rfl⟩
    apply parW_op (ds := [149, 144]) rfl rfl rfl rfl (by kernel_rfl)
    · exact .inl ⟨wtS, stepQ_pv (pv_move rfl rfl) rfl rfl⟩
    apply parW_op (ds := [20, 150]) rfl rfl rfl rfl (by kernel_rfl)
    · exact .inl ⟨wtS, stepQ_pv (pv_move rfl rfl) rfl rfl⟩
    apply parW_op (ds := [21, 150]) rfl rfl rfl rfl (by kernel_rfl)
    · exact .inl ⟨wtS, stepQ_pv (pv_move rfl rfl) rfl rfl⟩
    apply parW_op (ds := [151, 152, 150]) rfl rfl rfl rfl (by kernel_rfl)
    · exact .inl ⟨wtS, stepQ_pv (pv_ix_t T0 rfl rfl rfl rfl (by omega) ixA) rfl rfl⟩
    apply parW_op (ds := [153, 150]) rfl rfl rfl rfl (by kernel_rfl)
    · exact .inl ⟨wtS, stepQ_lv (lv_elt_sc T0 rfl rfl rfl rfl) rfl rfl⟩
    apply parW_op (ds := [6, 150]) rfl rfl rfl rfl (by kernel_rfl)
    · exact .inl ⟨wtS, stepQ_pv (pv_move rfl rfl) rfl rfl⟩
    apply parW_op (ds := [21, 150]) rfl rfl rfl rfl (by kernel_rfl)
    · exact .inl ⟨wtS, stepQ_pv (pv_move rfl rfl) rfl rfl⟩
    apply parW_op (ds := [155, 156, 150]) rfl rfl rfl rfl (by kernel_rfl)
    · exact .inl ⟨wtS, stepQ_pv (pv_ix_t T0 rfl rfl rfl rfl (by omega) ixA) rfl rfl⟩
    apply parW_op (ds := [157, 150]) rfl rfl rfl rfl (by kernel_rfl)
    · exact .inl ⟨wtS, stepQ_lv (lv_elt_sc T0 rfl rfl rfl rfl) rfl rfl⟩
    apply parW_op (ds := [158, 150]) rfl rfl rfl rfl (by kernel_rfl)
    · exact .inl ⟨wtS, stepQ_pv (pv_neg rfl rfl (wr64 (by omega))) rfl rfl⟩
    apply parW_op (ds := [154, 159, 150]) rfl rfl rfl rfl (by kernel_rfl)
    · exact .inl ⟨wtS, stepQ_pv (pv_neq rfl rfl rfl) rfl rfl⟩
    apply parW_op (ds := [150, 160, 144]) rfl rfl rfl rfl (by kernel_rfl)
    · exact .inl ⟨wtS, stepQ_pv (pv_pick_t rfl rfl tfA rfl) rfl rfl⟩
    apply parW_op (ds := [144, 161]) rfl rfl rfl rfl (by kernel_rfl)
    · exact .inl ⟨(wt_none rfl), stepQ_pv (pv_pick_f rfl rfl tfA rfl) rfl rfl⟩
    apply parW_op (ds := [162]) rfl rfl rfl rfl (by kernel_rfl)
    · exact .inl ⟨(wt_none rfl), stepQ_pv (pv_move rfl rfl) rfl rfl⟩
    apply parW_op (ds := [7, 163]) rfl rfl rfl rfl (by kernel_rfl)
    · exact .inl ⟨wtS, stepQ_pv (pv_move rfl rfl) rfl rfl⟩
    apply parW_op (ds := [21, 163]) rfl rfl rfl rfl (by kernel_rfl)
    · exact .inl ⟨wtS, stepQ_pv (pv_move rfl rfl) rfl rfl⟩
    apply parW_op (ds := [164, 165, 163]) rfl rfl rfl rfl (by kernel_rfl)
    · exact .inl ⟨wtS, stepQ_pv (pv_ix_t T0 rfl rfl rfl rfl (by omega) ixA) rfl rfl⟩
    apply parW_op (ds := [166, 163]) rfl rfl rfl rfl (by kernel_rfl)
    · exact .inl ⟨wtS, stepQ_lv (lv_elt_sc T0 rfl rfl rfl rfl) rfl rfl⟩
    apply parW_op (ds := [167, 163]) rfl rfl rfl rfl (by kernel_rfl)
    · exact .inl ⟨wtS, stepQ_pv (pv_gtr rfl rfl rfl) rfl rfl⟩
    apply parW_op (ds := [168, 163]) rfl rfl rfl rfl (by kernel_rfl)
    · exact .inl ⟨wtS, stepQ_pv (pv_move rfl rfl) rfl rfl⟩
    apply parW_op (ds := [20, 169]) rfl rfl rfl rfl (by kernel_rfl)
    · exact .inr ⟨(wf_some rfl rfl rfl rfl tfA), rfl⟩
    apply parW_op (ds := [21, 169]) rfl rfl rfl rfl (by kernel_rfl)
    · exact .inr ⟨(wf_some rfl rfl rfl rfl tfA), rfl⟩
    apply parW_op (ds := [170, 171, 169]) rfl rfl rfl rfl (by kernel_rfl)
    · exact .inr ⟨(wf_some rfl rfl rfl rfl tfA), rfl⟩
    apply parW_op (ds := [172, 169]) rfl rfl rfl rfl (by kernel_rfl)
    · exact .inr ⟨(wf_some rfl rfl rfl rfl tfA), rfl⟩
    apply parW_op (ds := [7, 169]) rfl rfl rfl rfl (by kernel_rfl)
    · exact .inr ⟨(wf_some rfl rfl rfl rfl tfA), rfl⟩
    apply parW_op (ds := [21, 169]) rfl rfl rfl rfl (by kernel_rfl)
    · exact .inr ⟨(wf_some rfl rfl rfl rfl tfA), rfl⟩
    apply parW_op (ds := [174, 175, 169]) rfl rfl rfl rfl (by kernel_rfl)
    · exact .inr ⟨(wf_some rfl rfl rfl rfl tfA), rfl⟩
    apply parW_op (ds := [176, 169]) rfl rfl rfl rfl (by kernel_rfl)
    · exact .inr ⟨(wf_some rfl rfl rfl rfl tfA), rfl⟩
    apply parW_op (ds := [173, 177, 169]) rfl rfl rfl rfl (by kernel_rfl)
    · exact .inr ⟨(wf_some rfl rfl rfl rfl tfA), rfl⟩
    apply parW_op (ds := [169, 178, 163]) rfl rfl rfl rfl (by kernel_rfl)
    · exact .inl ⟨wtS, stepQ_pv (pv_pick_f rfl rfl tfA rfl) rfl rfl⟩
    apply parW_op (ds := [163, 179]) rfl rfl rfl rfl (by kernel_rfl)
    · exact .inl ⟨(wt_none rfl), stepQ_pv (pv_pick_f rfl rfl tfA rfl) rfl rfl⟩
    apply parW_op (ds := [180]) rfl rfl rfl rfl (by kernel_rfl)
    · exact .inl ⟨(wt_none rfl), stepQ_pv (pv_move rfl rfl) rfl rfl⟩
    apply parW_op (ds := [6, 181]) rfl rfl rfl rfl (by kernel_rfl)
    · exact .inl ⟨wtS, stepQ_pv (pv_move rfl rfl) rfl rfl⟩
    apply parW_op (ds := [21, 181]) rfl rfl rfl rfl (by kernel_rfl)
    · exact .inl ⟨wtS, stepQ_pv (pv_move rfl rfl) rfl rfl⟩
    apply parW_op (ds := [182, 183, 181]) rfl rfl rfl rfl (by kernel_rfl)
    · exact .inl ⟨wtS, stepQ_pv (pv_ix_t T0 rfl rfl rfl rfl (by omega) ixA) rfl rfl⟩
    apply parW_op (ds := [184, 181]) rfl rfl rfl rfl (by kernel_rfl)
    · exact .inl ⟨wtS, stepQ_lv (lv_elt_sc T0 rfl rfl rfl rfl) rfl rfl⟩
    apply parW_op (ds := [185, 181]) rfl rfl rfl rfl (by kernel_rfl)
    · exact .inl ⟨wtS, stepQ_pv (pv_eql rfl rfl rfl) rfl rfl⟩
    apply parW_op (ds := [186, 181]) rfl rfl rfl rfl (by kernel_rfl)
    · exact .inl ⟨wtS, stepQ_pv (pv_move rfl rfl) rfl rfl⟩
    apply parW_op (ds := [20, 187]) rfl rfl rfl rfl (by kernel_rfl)
    · exact .inr ⟨(wf_some rfl rfl rfl rfl tfA), rfl⟩
    apply parW_op (ds := [21, 187]) rfl rfl rfl rfl (by kernel_rfl)
    · exact .inr ⟨(wf_some rfl rfl rfl rfl tfA), rfl⟩
    apply parW_op (ds := [188, 189, 187]) rfl rfl rfl rfl (by kernel_rfl)
    · exact .inr ⟨(wf_some rfl rfl rfl rfl tfA), rfl⟩
    apply parW_op (ds := [190, 187]) rfl rfl rfl rfl (by kernel_rfl)
    · exact .inr ⟨(wf_some rfl rfl rfl rfl tfA), rfl⟩
    apply parW_op (ds := [191, 187]) rfl rfl rfl rfl (by kernel_rfl)
    · exact .inr ⟨(wf_some rfl rfl rfl rfl tfA), rfl⟩
    apply parW_op (ds := [187, 192, 181]) rfl rfl rfl rfl (by kernel_rfl)
    · exact .inl ⟨wtS, stepQ_pv (pv_pick_f rfl rfl tfA rfl) rfl rfl⟩
    apply parW_op (ds := [181, 193]) rfl rfl rfl rfl (by kernel_rfl)
    · exact .inl ⟨(wt_none rfl), stepQ_pv (pv_pick_f rfl rfl tfA rfl) rfl rfl⟩
    refine parW_nil ?_
    exact cut_n ⟨rfl, rfl⟩ ssA (SubH.refl _)
  have d1 : decide (0 < N.getD k 0) = false := decide_eq_false (by omega)
  have d5 : decide (N.getD k 0 = 0) = true := decide_eq_true (by omega)
  have d6 : decide (P.getD k 0 < 0) = false := decide_eq_false (by have := h3 (by omega); omega)
  by_cases cb : 0 < b
  · have d3 : decide (0 < S.getD k 0) = true := decide_eq_true (by omega)
    have d4 : decide (P.getD k 0 ≠ S.getD k 0) = false := decide_eq_false (by have := h2 cb; omega)
    refine awp_par T0 (l := (0 :: 1 :: 2 :: 3 :: 4 :: 5 :: 6 :: 7 :: 8 :: 9 :: 10 :: 11 :: 12 :: 13 :: 14 :: 15 :: 16 :: 17 :: 18 :: 19 :: 20 :: 21 :: 22 :: 23 :: 24 :: 25 :: 26 :: 27 :: 28 :: 29 :: 30 :: 31 :: 32 :: 33 :: 34 :: 35 :: 36 :: 37 :: 38 :: 39 :: 40 :: 41 :: 42 :: 43 :: 44 :: 45 :: 46 :: 47 :: 48 :: 49 :: 50 :: 51 :: 52 :: 53 :: 54 :: 55 :: 56 :: 57 :: 58 :: 59 :: 60 :: 61 :: 62 :: [])) rfl (by kernel_rfl) (by kernel_rfl) ?_
    apply parW_op (ds := [6]) rfl rfl rfl rfl (by kernel_rfl)
    · exact .inl ⟨(wt_none rfl), stepQ_pv (pv_move rfl rfl) rfl rfl⟩
    apply parW_op (ds := [21]) rfl rfl rfl rfl (by kernel_rfl)
    · exact .inl ⟨(wt_none rfl), stepQ_pv (pv_move rfl rfl) rfl rfl⟩
    apply parW_op (ds := [132, 133]) rfl rfl rfl rfl (by kernel_rfl)
    · exact .inl ⟨(wt_none rfl), stepQ_pv (pv_ix_t T0 rfl rfl rfl rfl (by omega) ixA) rfl rfl⟩
    apply parW_op (ds := [134]) rfl rfl rfl rfl (by kernel_rfl)
    · exact .inl ⟨(wt_none rfl), stepQ_lv (lv_elt_sc T0 rfl rfl rfl rfl) rfl rfl⟩
    apply parW_op (ds := [135]) rfl rfl rfl rfl (by kernel_rfl)
    · exact .inl ⟨(wt_none rfl), stepQ_pv (pv_lss rfl rfl rfl) rfl rfl⟩
    apply parW_op (ds := [136]) rfl rfl rfl rfl (by kernel_rfl)
    · exact .inl ⟨(wt_none rfl), stepQ_pv (pv_move rfl rfl) rfl rfl⟩
    apply parW_op (ds := [7, 137]) rfl rfl rfl rfl (by kernel_rfl)
    · exact .inl ⟨wtS, stepQ_pv (pv_move rfl rfl) rfl rfl⟩
    apply parW_op (ds := [21, 137]) rfl rfl rfl rfl (by kernel_rfl)
    · exact .inl ⟨wtS, stepQ_pv (pv_move rfl rfl) rfl rfl⟩
    apply parW_op (ds := [138, 139, 137]) rfl rfl rfl rfl (by kernel_rfl)
    · exact .inl ⟨wtS, stepQ_pv (pv_ix_t T0 rfl rfl rfl rfl (by omega) ixA) rfl rfl⟩
    apply parW_op (ds := [140, 137]) rfl rfl rfl rfl (by kernel_rfl)
    · exact .inl ⟨wtS, stepQ_lv (lv_elt_sc T0 rfl rfl rfl rfl) rfl rfl⟩
    apply parW_op (ds := [141, 137]) rfl rfl rfl rfl (by kernel_rfl)
    · exact .inl ⟨wtS, stepQ_pv (pv_lss rfl rfl rfl) rfl rfl⟩
    apply parW_op (ds := [137, 142]) rfl rfl rfl rfl (by kernel_rfl)
    · exact .inl ⟨(wt_none rfl), stepQ_pv (pv_pick_f rfl rfl tfA rfl) rfl rfl⟩
    apply parW_op (ds := [143]) rfl rfl rfl rfl (by kernel_rfl)
    · exact .inl ⟨(wt_none rfl), stepQ_pv (pv_move rfl rfl) rfl rfl⟩
    apply parW_op (ds := [6, 144]) rfl rfl rfl rfl (by kernel_rfl)
    · exact .inl ⟨wtS, stepQ_pv (pv_move rfl rfl) rfl rfl⟩
    apply parW_op (ds := [21, 144]) rfl rfl rfl rfl (by kernel_rfl)
    · exact .inl ⟨wtS, stepQ_pv (pv_move rfl rfl) rfl rfl⟩
    apply parW_op (ds := [145, 146, 144]) rfl rfl rfl rfl (by kernel_rfl)
    · exact .inl ⟨wtS, stepQ_pv (pv_ix_t T0 rfl rfl rfl rfl (by omega) ixA) rfl rfl⟩
    apply parW_op (ds := [147, 144]) rfl rfl rfl rfl (by kernel_rfl)
    · exact .inl ⟨wtS, stepQ_lv (lv_elt_sc T0 rfl rfl rfl rfl) rfl rfl⟩
    apply parW_op (ds := [148, 144]) rfl rfl rfl rfl (by kernel_rfl)
    · exact .inl ⟨wtS, stepQ_pv (pv_gtr rfl rfl rfl) rfl rfl⟩
    apply parW_op (ds := [149, 144]) rfl rfl rfl rfl (by kernel_rfl)
    · exact .inl ⟨wtS, stepQ_pv (pv_move rfl rfl) rfl rfl⟩
    apply parW_op (ds := [20, 150]) rfl rfl rfl rfl (by kernel_rfl)
    · exact .inr ⟨(wf_some rfl rfl rfl rfl tfA), rfl⟩
    apply parW_op (ds := [21, 150]) rfl rfl rfl rfl (by kernel_rfl)
    · exact .inr ⟨(wf_some rfl rfl rfl rfl tfA), rfl⟩
    apply parW_op (ds := [151, 152, 150]) rfl rfl rfl rfl (by kernel_rfl)
    · exact .inr ⟨(wf_some rfl rfl rfl rfl tfA), rfl⟩
    apply parW_op (ds := [153, 150]) rfl rfl rfl rfl (by kernel_rfl)
    · exact .inr ⟨(wf_some rfl rfl rfl rfl tfA), rfl⟩
    apply parW_op (ds := [6, 150]) rfl rfl rfl rfl (by kernel_rfl)
    · exact .inr ⟨(wf_some rfl rfl rfl rfl tfA), rfl⟩
    apply parW_op (ds := [21, 150]) rfl rfl rfl rfl (by kernel_rfl)
    · exact .inr ⟨(wf_some rfl rfl rfl rfl tfA), rfl⟩
    apply parW_op (ds := [155, 156, 150]) rfl rfl rfl rfl (by kernel_rfl)
    · exact .inr ⟨(wf_some rfl rfl rfl rfl tfA), rfl⟩
    apply parW_op (ds := [157, 150]) rfl rfl rfl rfl (by kernel_rfl)
    · exact .inr ⟨(wf_some rfl rfl rfl rfl tfA), rfl⟩
    apply parW_op (ds := [158, 150]) rfl rfl rfl rfl (by kernel_rfl)
    · exact .inr ⟨(wf_some rfl rfl rfl rfl tfA), rfl⟩
    apply parW_op (ds := [154, 159, 150]) rfl rfl rfl rfl (by kernel_rfl)
    · exact .inr ⟨(wf_some rfl rfl rfl rfl tfA), rfl⟩
    apply parW_op (ds := [150, 160, 144]) rfl rfl rfl rfl (by kernel_rfl)
    · exact .inl ⟨wtS, stepQ_pv (pv_pick_f rfl rfl tfA rfl) rfl rfl⟩
    apply parW_op (ds := [144, 161]) rfl rfl rfl rfl (by kernel_rfl)
    · exact .inl ⟨(wt_none rfl), stepQ_pv (pv_pick_f rfl rfl tfA rfl) rfl rfl⟩
    apply parW_op (ds := [162]) rfl rfl rfl rfl (by kernel_rfl)
    · exact .inl ⟨(wt_none rfl), stepQ_pv (pv_move rfl rfl) rfl rfl⟩
    apply parW_op (ds := [7, 163]) rfl rfl rfl rfl (by kernel_rfl)
    · exact .inl ⟨wtS, stepQ_pv (pv_move rfl rfl) rfl rfl⟩
    apply parW_op (ds := [21, 163]) rfl rfl rfl rfl (by kernel_rfl)
    · exact .inl ⟨wtS, stepQ_pv (pv_move rfl rfl) rfl rfl⟩
    apply parW_op (ds := [164, 165, 163]) rfl rfl rfl rfl (by kernel_rfl)
    · exact .inl ⟨wtS, stepQ_pv (pv_ix_t T0 rfl rfl rfl rfl (by omega) ixA) rfl rfl⟩
    apply parW_op (ds := [166, 163]) rfl rfl rfl rfl (by kernel_rfl)
    · exact .inl ⟨wtS, stepQ_lv (lv_elt_sc T0 rfl rfl rfl rfl) rfl rfl⟩
    apply parW_op (ds := [167, 163]) rfl rfl rfl rfl (by kernel_rfl)
    · exact .inl ⟨wtS, stepQ_pv (pv_gtr rfl rfl rfl) rfl rfl⟩
    apply parW_op (ds := [168, 163]) rfl rfl rfl rfl (by kernel_rfl)
    · exact .inl ⟨wtS, stepQ_pv (pv_move rfl rfl) rfl rfl⟩
    apply parW_op (ds := [20, 169]) rfl rfl rfl rfl (by kernel_rfl)
    · exact .inl ⟨wtS, stepQ_pv (pv_move rfl rfl) rfl rfl⟩
    apply parW_op (ds := [21, 169]) rfl rfl rfl rfl (by kernel_rfl)
    · exact .inl ⟨wtS, stepQ_pv (pv_move rfl rfl) rfl rfl⟩
    apply parW_op (ds := [170, 171, 169]) rfl rfl rfl rfl (by kernel_rfl)
    · exact .inl ⟨wtS, stepQ_pv (pv_ix_t T0 rfl rfl rfl rfl (by omega) ixA) rfl rfl⟩
    apply parW_op (ds := [172, 169]) rfl rfl rfl rfl (by kernel_rfl)
    · exact .inl ⟨wtS, stepQ_lv (lv_elt_sc T0 rfl rfl rfl rfl) rfl rfl⟩
    apply parW_op (ds := [7, 169]) rfl rfl rfl rfl (by kernel_rfl)
    · exact .inl ⟨wtS, stepQ_pv (pv_move rfl rfl) rfl rfl⟩
    apply parW_op (ds := [21, 169]) rfl rfl rfl rfl (by kernel_rfl)
    · exact .inl ⟨wtS, stepQ_pv (pv_move rfl rfl) rfl rfl⟩
    apply parW_op (ds := [174, 175, 169]) rfl rfl rfl rfl (by kernel_rfl)
    · exact .inl ⟨wtS, stepQ_pv (pv_ix_t T0 rfl rfl rfl rfl (by omega) ixA) rfl rfl⟩
    apply parW_op (ds := [176, 169]) rfl rfl rfl rfl (by kernel_rfl)
    · exact .inl ⟨wtS, stepQ_lv (lv_elt_sc T0 rfl rfl rfl rfl) rfl rfl⟩
    apply parW_op (ds := [173, 177, 169]) rfl rfl rfl rfl (by kernel_rfl)
    · exact .inl ⟨wtS, stepQ_pv (pv_neq rfl rfl rfl) rfl rfl⟩
    apply parW_op (ds := [169, 178, 163]) rfl rfl rfl rfl (by kernel_rfl)
    · exact .inl ⟨wtS, stepQ_pv (pv_pick_t rfl rfl tfA rfl) rfl rfl⟩
    apply parW_op (ds := [163, 179]) rfl rfl rfl rfl (by kernel_rfl)
    · exact .inl ⟨(wt_none rfl), stepQ_pv (pv_pick_f rfl rfl tfA rfl) rfl rfl⟩
    apply parW_op (ds := [180]) rfl rfl rfl rfl (by kernel_rfl)
    · exact .inl ⟨(wt_none rfl), stepQ_pv (pv_move rfl rfl) rfl rfl⟩
    apply parW_op (ds := [6, 181]) rfl rfl rfl rfl (by kernel_rfl)
    · exact .inl ⟨wtS, stepQ_pv (pv_move rfl rfl) rfl rfl⟩
    apply parW_op (ds := [21, 181]) rfl rfl rfl rfl (by kernel_rfl)
    · exact .inl ⟨wtS, stepQ_pv (pv_move rfl rfl) rfl rfl⟩
    apply parW_op (ds := [182, 183, 181]) rfl rfl rfl rfl (by kernel_rfl)
    · exact .inl ⟨wtS, stepQ_pv (pv_ix_t T0 rfl rfl rfl rfl (by omega) ixA) rfl rfl⟩
    apply parW_op (ds := [184, 181]) rfl rfl rfl rfl (by kernel_rfl)
    · exact .inl ⟨wtS, stepQ_lv (lv_elt_sc T0 rfl rfl rfl rfl) rfl rfl⟩
    apply parW_op (ds := [185, 181]) rfl rfl rfl rfl (by kernel_rfl)
    · exact .inl ⟨wtS, stepQ_pv (pv_eql rfl rfl rfl) rfl rfl⟩
    apply parW_op (ds := [186, 181]) rfl rfl rfl rfl (by kernel_rfl)
    · exact .inl ⟨wtS, stepQ_pv (pv_move rfl rfl) rfl rfl⟩
    apply parW_op (ds := [20, 187]) rfl rfl rfl rfl (by kernel_rfl)
    · exact .inl ⟨wtS, stepQ_pv (pv_move rfl rfl) rfl rfl⟩
    apply parW_op (ds := [21, 187]) rfl rfl rfl rfl (by kernel_rfl)
    · exact .inl ⟨wtS, stepQ_pv (pv_move rfl rfl) rfl rfl⟩
    apply parW_op (ds := [188, 189, 187]) rfl rfl rfl rfl (by kernel_rfl)
    · exact .inl ⟨wtS, stepQ_pv (pv_ix_t T0 rfl rfl rfl rfl (by omega) ixA) rfl rfl⟩
    apply parW_op (ds := [190, 187]) rfl rfl rfl rfl (by kernel_rfl)
    · exact .inl ⟨wtS, stepQ_lv (lv_elt_sc T0 rfl rfl rfl rfl) rfl rfl⟩
    apply parW_op (ds := [191, 187]) rfl rfl rfl rfl (by kernel_rfl)
    · exact .inl ⟨wtS, stepQ_pv (pv_lss rfl rfl rfl) rfl rfl⟩
    apply parW_op (ds := [187, 192, 181]) rfl rfl rfl rfl (by kernel_rfl)
    · exact .inl ⟨wtS, stepQ_pv (pv_pick_t rfl rfl tfA rfl) rfl rfl⟩
    apply parW_op (ds := [181, 193]) rfl rfl rfl rfl (by kernel_rfl)
    · exact .inl ⟨(wt_none rfl), stepQ_pv (pv_pick_f rfl rfl tfA rfl) rfl rfl⟩
    refine parW_nil ?_
    rw [d6]
    exact cut_n ⟨rfl, rfl⟩ ssA (SubH.refl _)
  · have d3 : decide (0 < S.getD k 0) = false := decide_eq_false (by omega)
    refine awp_par T0 (l := (0 :: 1 :: 2 :: 3 :: 4 :: 5 :: 6 :: 7 :: 8 :: 9 :: 10 :: 11 :: 12 :: 13 :: 14 :: 15 :: 16 :: 17 :: 18 :: 19 :: 20 :: 21 :: 22 :: 23 :: 24 :: 25 :: 26 :: 27 :: 28 :: 29 :: 30 :: 31 :: 32 :: 33 :: 34 :: 35 :: 36 :: 37 :: 38 :: 39 :: 40 :: 41 :: 42 :: 43 :: 44 :: 45 :: 46 :: 47 :: 48 :: 49 :: 50 :: 51 :: 52 :: 53 :: 54 :: 55 :: 56 :: 57 :: 58 :: 59 :: 60 :: 61 :: 62 :: [])) rfl (by kernel_rfl) (by kernel_rfl) ?_
    apply parW_op (ds := [6]) rfl rfl rfl rfl (by kernel_rfl)
    · exact .inl ⟨(wt_none rfl), stepQ_pv (pv_move rfl rfl) rfl rfl⟩
    apply parW_op (ds := [21]) rfl rfl rfl rfl (by kernel_rfl)
    · exact .inl ⟨(wt_none rfl), stepQ_pv (pv_move rfl rfl) rfl rfl⟩
    apply parW_op (ds := [132, 133]) rfl rfl rfl rfl (by kernel_rfl)
    · exact .inl ⟨(wt_none rfl), stepQ_pv (pv_ix_t T0 rfl rfl rfl rfl (by omega) ixA) rfl rfl⟩
    apply parW_op (ds := [134]) rfl rfl rfl rfl (by kernel_rfl)
    · exact .inl ⟨(wt_none rfl), stepQ_lv (lv_elt_sc T0 rfl rfl rfl rfl) rfl rfl⟩
    apply parW_op (ds := [135]) rfl rfl rfl rfl (by kernel_rfl)
    · exact .inl ⟨(wt_none rfl), stepQ_pv (pv_lss rfl rfl rfl) rfl rfl⟩
    apply parW_op (ds := [136]) rfl rfl rfl rfl (by kernel_rfl)
    · exact .inl ⟨(wt_none rfl), stepQ_pv (pv_move rfl rfl) rfl rfl⟩
    apply parW_op (ds := [7, 137]) rfl rfl rfl rfl (by kernel_rfl)
    · exact .inl ⟨wtS, stepQ_pv (pv_move rfl rfl) rfl rfl⟩
    apply parW_op (ds := [21, 137]) rfl rfl rfl rfl (by kernel_rfl)
    · exact .inl ⟨wtS, stepQ_pv (pv_move rfl rfl) rfl rfl⟩
    apply parW_op (ds := [138, 139, 137]) rfl rfl rfl rfl (by kernel_rfl)
    · exact .inl ⟨wtS, stepQ_pv (pv_ix_t T0 rfl rfl rfl rfl (by omega) ixA) rfl rfl⟩
    apply parW_op (ds := [140, 137]) rfl rfl rfl rfl (by kernel_rfl)
    · exact .inl ⟨wtS, stepQ_lv (lv_elt_sc T0 rfl rfl rfl rfl) rfl rfl⟩
    apply parW_op (ds := [141, 137]) rfl rfl rfl rfl (by kernel_rfl)
    · exact .inl ⟨wtS, stepQ_pv (pv_lss rfl rfl rfl) rfl rfl⟩
    apply parW_op (ds := [137, 142]) rfl rfl rfl rfl (by kernel_rfl)
    · exact .inl ⟨(wt_none rfl), stepQ_pv (pv_pick_f rfl rfl tfA rfl) rfl rfl⟩
    apply parW_op (ds := [143]) rfl rfl rfl rfl (by kernel_rfl)
    · exact .inl ⟨(wt_none rfl), stepQ_pv (pv_move rfl rfl) rfl rfl⟩
    apply parW_op (ds := [6, 144]) rfl rfl rfl rfl (by kernel_rfl)
    · exact .inl ⟨wtS, stepQ_pv (pv_move rfl rfl) rfl rfl⟩
    apply parW_op (ds := [21, 144]) rfl rfl rfl rfl (by kernel_rfl)
    · exact .inl ⟨wtS, stepQ_pv (pv_move rfl rfl) rfl rfl⟩
    apply parW_op (ds := [145, 146, 144]) rfl rfl rfl rfl (by kernel_rfl)
    · exact .inl ⟨wtS, stepQ_pv (pv_ix_t T0 rfl rfl rfl rfl (by omega) ixA) rfl rfl⟩
    apply parW_op (ds := [147, 144]) rfl rfl rfl rfl (by kernel_rfl)
    · exact .inl ⟨wtS, stepQ_lv (lv_elt_sc T0 rfl rfl rfl rfl) rfl rfl⟩
    apply parW_op (ds := [148, 144]) rfl rfl rfl rfl (by kernel_rfl)
    · exact .inl ⟨wtS, stepQ_pv (pv_gtr rfl rfl rfl) rfl rfl⟩
    apply parW_op (ds := [149, 144]) rfl rfl rfl rfl (by kernel_rfl)
    · exact .inl ⟨wtS, stepQ_pv (pv_move rfl rfl) rfl rfl⟩
    apply parW_op (ds := [20, 150]) rfl rfl rfl rfl (by kernel_rfl)
    · exact .inr ⟨(wf_some rfl rfl rfl rfl tfA), rfl⟩
    apply parW_op (ds := [21, 150]) rfl rfl rfl rfl (by kernel_rfl)
    · exact .inr ⟨(wf_some rfl rfl rfl rfl tfA), rfl⟩
    apply parW_op (ds := [151, 152, 150]) rfl rfl rfl rfl (by kernel_rfl)
    · exact .inr ⟨(wf_some rfl rfl rfl rfl tfA), rfl⟩
    apply parW_op (ds := [153, 150]) rfl rfl rfl rfl (by kernel_rfl)
    · exact .inr ⟨(wf_some rfl rfl rfl rfl tfA), rfl⟩
    apply parW_op (ds := [6, 150]) rfl rfl rfl rfl (by kernel_rfl)
    · exact .inr ⟨(wf_some rfl rfl rfl rfl tfA), rfl⟩
    apply parW_op (ds := [21, 150]) rfl rfl rfl rfl (by kernel_rfl)
    · exact .inr ⟨(wf_some rfl rfl rfl rfl tfA), rfl⟩
    apply parW_op (ds := [155, 156, 150]) rfl rfl rfl rfl (by kernel_rfl)
    · exact .inr ⟨(wf_some rfl rfl rfl rfl tfA), rfl⟩
    apply parW_op (ds := [157, 150]) rfl rfl rfl rfl (by kernel_rfl)
    · exact .inr ⟨(wf_some rfl rfl rfl rfl tfA), rfl⟩
    apply parW_op (ds := [158, 150]) rfl rfl rfl rfl (by kernel_rfl)
    · exact .inr ⟨(wf_some rfl rfl rfl rfl tfA), rfl⟩
    apply parW_op (ds := [154, 159, 150]) rfl rfl rfl rfl (by kernel_rfl)
    · exact .inr ⟨(wf_some rfl rfl rfl rfl tfA), rfl⟩
    apply parW_op (ds := [150, 160, 144]) rfl rfl rfl rfl (by kernel_rfl)
    · exact .inl ⟨wtS, stepQ_pv (pv_pick_f rfl rfl tfA rfl) rfl rfl⟩
    apply parW_op (ds := [144, 161]) rfl rfl rfl rfl (by kernel_rfl)
    · exact .inl ⟨(wt_none rfl), stepQ_pv (pv_pick_f rfl rfl tfA rfl) rfl rfl⟩
    apply parW_op (ds := [162]) rfl rfl rfl rfl (by kernel_rfl)
    · exact .inl ⟨(wt_none rfl), stepQ_pv (pv_move rfl rfl) rfl rfl⟩
    apply parW_op (ds := [7, 163]) rfl rfl rfl rfl (by kernel_rfl)
    · exact .inl ⟨wtS, stepQ_pv (pv_move rfl rfl) rfl rfl⟩
    apply parW_op (ds := [21, 163]) rfl rfl rfl rfl (by kernel_rfl)
    · exact .inl ⟨wtS, stepQ_pv (pv_move rfl rfl) rfl rfl⟩
    apply parW_op (ds := [164, 165, 163]) rfl rfl rfl rfl (by kernel_rfl)
    · exact .inl ⟨wtS, stepQ_pv (pv_ix_t T0 rfl rfl rfl rfl (by omega) ixA) rfl rfl⟩
    apply parW_op (ds := [166, 163]) rfl rfl rfl rfl (by kernel_rfl)
    · exact .inl ⟨wtS, stepQ_lv (lv_elt_sc T0 rfl rfl rfl rfl) rfl rfl⟩
    apply parW_op (ds := [167, 163]) rfl rfl rfl rfl (by kernel_rfl)
    · exact .inl ⟨wtS, stepQ_pv (pv_gtr rfl rfl rfl) rfl rfl⟩
    apply parW_op (ds := [168, 163]) rfl rfl rfl rfl (by kernel_rfl)
    · exact .inl ⟨wtS, stepQ_pv (pv_move rfl rfl) rfl rfl⟩
    apply parW_op (ds := [20, 169]) rfl rfl rfl rfl (by kernel_rfl)
    · exact .inr ⟨(wf_some rfl rfl rfl rfl tfA), rfl⟩
    apply parW_op (ds := [21, 169]) rfl rfl rfl rfl (by kernel_rfl)
    · exact .inr ⟨(wf_some rfl rfl rfl rfl tfA), rfl⟩
    apply parW_op (ds := [170, 171, 169]) rfl rfl rfl rfl (by kernel_rfl)
    · exact .inr ⟨(wf_some rfl rfl rfl rfl tfA), rfl⟩
    apply parW_op (ds := [172, 169]) rfl rfl rfl rfl (by kernel_rfl)
    · exact .inr ⟨(wf_some rfl rfl rfl rfl tfA), rfl⟩
    apply parW_op (ds := [7, 169]) rfl rfl rfl rfl (by kernel_rfl)
    · exact .inr ⟨(wf_some rfl rfl rfl rfl tfA), rfl⟩
    apply parW_op (ds := [21, 169]) rfl rfl rfl rfl (by kernel_rfl)
    · exact .inr ⟨(wf_some rfl rfl rfl rfl tfA), rfl⟩
    apply parW_op (ds := [174, 175, 169]) rfl rfl rfl rfl (by kernel_rfl)
    · exact .inr ⟨(wf_some rfl rfl rfl rfl tfA), rfl⟩
    apply parW_op (ds := [176, 169]) rfl rfl rfl rfl (by kernel_rfl)
    · exact .inr ⟨(wf_some rfl rfl rfl rfl tfA), rfl⟩
    apply parW_op (ds := [173, 177, 169]) rfl rfl rfl rfl (by kernel_rfl)
    · exact .inr ⟨(wf_some rfl rfl rfl rfl tfA), rfl⟩
    apply parW_op (ds := [169, 178, 163]) rfl rfl rfl rfl (by kernel_rfl)
    · exact .inl ⟨wtS, stepQ_pv (pv_pick_f rfl rfl tfA rfl) rfl rfl⟩
    apply parW_op (ds := [163, 179]) rfl rfl rfl rfl (by kernel_rfl)
    · exact .inl ⟨(wt_none rfl), stepQ_pv (pv_pick_f rfl rfl tfA rfl) rfl rfl⟩
    apply parW_op (ds := [180]) rfl rfl rfl rfl (by kernel_rfl)
    · exact .inl ⟨(wt_none rfl), stepQ_pv (pv_move rfl rfl) rfl rfl⟩
    apply parW_op (ds := [6, 181]) rfl rfl rfl rfl (by kernel_rfl)
    · exact .inl ⟨wtS, stepQ_pv (pv_move rfl rfl) rfl rfl⟩
    apply parW_op (ds := [21, 181]) rfl rfl rfl rfl (by kernel_rfl)
    · exact .inl ⟨wtS, stepQ_pv (pv_move rfl rfl) rfl rfl⟩
    apply parW_op (ds := [182, 183, 181]) rfl rfl rfl rfl (by kernel_rfl)
    · exact .inl ⟨wtS, stepQ_pv (pv_ix_t T0 rfl rfl rfl rfl (by omega) ixA) rfl rfl⟩
    apply parW_op (ds := [184, 181]) rfl rfl rfl rfl (by kernel_rfl)
    · exact .inl ⟨wtS, stepQ_lv (lv_elt_sc T0 rfl rfl rfl rfl) rfl rfl⟩
    apply parW_op (ds := [185, 181]) rfl rfl rfl rfl (by kernel_rfl)
    · exact .inl ⟨wtS, stepQ_pv (pv_eql rfl rfl rfl) rfl rfl⟩
    apply parW_op (ds := [186, 181]) rfl rfl rfl rfl (by kernel_rfl)
    · exact .inl ⟨wtS, stepQ_pv (pv_move rfl rfl) rfl rfl⟩
    apply parW_op (ds := [20, 187]) rfl rfl rfl rfl (by kernel_rfl)
    · exact .inl ⟨wtS, stepQ_pv (pv_move rfl rfl) rfl rfl⟩
    apply parW_op (ds := [21, 187]) rfl rfl rfl rfl (by kernel_rfl)
    · exact .inl ⟨wtS, stepQ_pv (pv_move rfl rfl) rfl rfl⟩
    apply parW_op (ds := [188, 189, 187]) rfl rfl rfl rfl (by kernel_rfl)
    · exact .inl ⟨wtS, stepQ_pv (pv_ix_t T0 rfl rfl rfl rfl (by omega) ixA) rfl rfl⟩
    apply parW_op (ds := [190, 187]) rfl rfl rfl rfl (by kernel_rfl)
    · exact .inl ⟨wtS, stepQ_lv (lv_elt_sc T0 rfl rfl rfl rfl) rfl rfl⟩
    apply parW_op (ds := [191, 187]) rfl rfl rfl rfl (by kernel_rfl)
    · exact .inl ⟨wtS, stepQ_pv (pv_lss rfl rfl rfl) rfl rfl⟩
    apply parW_op (ds := [187, 192, 181]) rfl rfl rfl rfl (by kernel_rfl)
    · exact .inl ⟨wtS, stepQ_pv (pv_pick_t rfl rfl tfA rfl) rfl rfl⟩
    apply parW_op (ds := [181, 193]) rfl rfl rfl rfl (by kernel_rfl)
    · exact .inl ⟨(wt_none rfl), stepQ_pv (pv_pick_f rfl rfl tfA rfl) rfl rfl⟩
    refine parW_nil ?_
    rw [d6]
    exact cut_n ⟨rfl, rfl⟩ ssA (SubH.refl _)
theorem li_18 {ex e : Int} (hex : 1 ≤ ex ∧ ex ≤ 200) (hP : P.length ≤ 6) (hPb : ∀ i, i < P.length → -1000000 ≤ P.getD i 0 ∧ P.getD i 0 ≤ 1000000) (hsum : sumK P P.length = ex) (h1 : lo ≤ x) (h2 : x ≤ hi) (h3 : decide (0 < lo) = sure) (h4 : decide (0 < hi) = may) (h5 : (e = 0) ↔ x ≤ 0) {ops : Array Oper} (h : regF Try.f8 18 = some ops) {B C : AV} :
    AWP Try.prog Try.f8.ntmps none (.region 18 ops true) (cutQ (fun s h => s = [(233, boolA false), (2, .v (ptrV g2)), (5, u5), (14, u14), (15, u15), (16, intA e)] ∧ h = [.cl g2 25 [intA ex, B, C]]))
      [(2, .v (ptrV g2)), (5, u5), (9, .v (ptrV g9)), (11, boolA sure), (12, boolA may), (14, u14), (15, u15), (16, intA e), (19, intA x), (20, .t (intsT true P))] [.cl g2 25 [intA ex, B, C], .cl g9 46 [intA lo, intA hi]] := by
  cases h
  have hS := sum_p true P (by omega) hPb
  rw [hsum] at hS
  have d1 : decide (ex ≠ ex) = false := decide_eq_false (fun h => h rfl)
  have d2 : decide (x < lo) = false := decide_eq_false (by omega)
  have d3 : decide (hi < x) = false := decide_eq_false (by omega)
  have d6 : (decide (e = 0) != decide (x ≤ 0)) = false := by
    rw [bne_eq_false_iff_eq]
    exact decide_eq_decide.2 h5
  cases sure
  · have s1 := of_decide_eq_false h3
    cases may
    · have s2 := of_decide_eq_false h4
      have d5 : decide (0 < x) = false := decide_eq_false (by omega)
      refine awp_par T0 (l := (0 :: 1 :: 2 :: 3 :: 4 :: 5 :: 6 :: 7 :: 8 :: 9 :: 10 :: 11 :: 12 :: 13 :: 14 :: 15 :: 16 :: 17 :: 18 :: 19 :: 20 :: 21 :: 22 :: 23 :: 24 :: 25 :: 26 :: 27 :: 28 :: 29 :: 30 :: 31 :: 32 :: 33 :: 34 :: 35 :: 36 :: 37 :: 38 :: [])) rfl (by kernel_rfl) (by kernel_rfl) ?_
      apply parW_op (ds := [20]) rfl rfl rfl rfl (by kernel_rfl)
      · exact .inl ⟨(wt_none rfl), stepQ_pv (pv_move rfl rfl) rfl rfl⟩
      apply parW_op (ds := [195]) rfl rfl rfl rfl (by kernel_rfl)
      · refine .inl ⟨(wt_none rfl), ?_⟩
        refine st_call T0 (hS) rfl rfl rfl rfl (by first | exact callee_lit | exact callee_v | exact callee_fn | assumption) rcA raA rfl ?_
        rintro _ rfl
        exact ⟨_, Ghost.refl, rfl⟩
      apply parW_op (ds := [2]) rfl rfl rfl rfl (by kernel_rfl)
      · exact .inl ⟨(wt_none rfl), stepQ_pv (pv_fa T0 rfl rfl rfl (by simp; rfl)) rfl rfl⟩
      apply parW_op (ds := [197]) rfl rfl rfl rfl (by kernel_rfl)
      · exact .inl ⟨(wt_none rfl), stepQ_lv (lv_cl1 T0 rfl rfl rfl rcA raA) rfl rfl⟩
      apply parW_op (ds := [196, 198]) rfl rfl rfl rfl (by kernel_rfl)
      · exact .inl ⟨(wt_none rfl), stepQ_pv (pv_neq rfl rfl rfl) rfl rfl⟩
      apply parW_op (ds := [199]) rfl rfl rfl rfl (by kernel_rfl)
      · exact .inl ⟨(wt_none rfl), stepQ_pv (pv_move rfl rfl) rfl rfl⟩
      apply parW_op (ds := [19, 200]) rfl rfl rfl rfl (by kernel_rfl)
      · exact .inl ⟨wtS, stepQ_pv (pv_move rfl rfl) rfl rfl⟩
      apply parW_op (ds := [9, 200]) rfl rfl rfl rfl (by kernel_rfl)
      · exact .inl ⟨wtS, stepQ_pv (pv_fa T0 rfl rfl rfl (by simp; rfl)) rfl rfl⟩
      apply parW_op (ds := [202, 200]) rfl rfl rfl rfl (by kernel_rfl)
      · exact .inl ⟨wtS, stepQ_lv (lv_cl1 T0 rfl rfl rfl rcA raA) rfl rfl⟩
      apply parW_op (ds := [201, 203, 200]) rfl rfl rfl rfl (by kernel_rfl)
      · exact .inl ⟨wtS, stepQ_pv (pv_lss rfl rfl rfl) rfl rfl⟩
      apply parW_op (ds := [200, 204]) rfl rfl rfl rfl (by kernel_rfl)
      · exact .inl ⟨(wt_none rfl), stepQ_pv (pv_pick_f rfl rfl tfA rfl) rfl rfl⟩
      apply parW_op (ds := [205]) rfl rfl rfl rfl (by kernel_rfl)
      · exact .inl ⟨(wt_none rfl), stepQ_pv (pv_move rfl rfl) rfl rfl⟩
      apply parW_op (ds := [19, 206]) rfl rfl rfl rfl (by kernel_rfl)
      · exact .inl ⟨wtS, stepQ_pv (pv_move rfl rfl) rfl rfl⟩
      apply parW_op (ds := [9, 206]) rfl rfl rfl rfl (by kernel_rfl)
      · exact .inl ⟨wtS, stepQ_pv (pv_fa T0 rfl rfl rfl (by simp; rfl)) rfl rfl⟩
      apply parW_op (ds := [208, 206]) rfl rfl rfl rfl (by kernel_rfl)
      · exact .inl ⟨wtS, stepQ_lv (lv_cl1 T0 rfl rfl rfl rcA raA) rfl rfl⟩
      apply parW_op (ds := [207, 209, 206]) rfl rfl rfl rfl (by kernel_rfl)
      · exact .inl ⟨wtS, stepQ_pv (pv_gtr rfl rfl rfl) rfl rfl⟩
      apply parW_op (ds := [206, 210]) rfl rfl rfl rfl (by kernel_rfl)
      · exact .inl ⟨(wt_none rfl), stepQ_pv (pv_pick_f rfl rfl tfA rfl) rfl rfl⟩
      apply parW_op (ds := [211]) rfl rfl rfl rfl (by kernel_rfl)
      · exact .inl ⟨(wt_none rfl), stepQ_pv (pv_move rfl rfl) rfl rfl⟩
      apply parW_op (ds := [11, 212]) rfl rfl rfl rfl (by kernel_rfl)
      · exact .inl ⟨wtS, stepQ_pv (pv_move rfl rfl) rfl rfl⟩
      apply parW_op (ds := [213, 212]) rfl rfl rfl rfl (by kernel_rfl)
      · exact .inl ⟨wtS, stepQ_pv (pv_move rfl rfl) rfl rfl⟩
      apply parW_op (ds := [19, 214]) rfl rfl rfl rfl (by kernel_rfl)
      · exact .inr ⟨(wf_some rfl rfl rfl rfl tfA), rfl⟩
      apply parW_op (ds := [215, 214]) rfl rfl rfl rfl (by kernel_rfl)
      · exact .inr ⟨(wf_some rfl rfl rfl rfl tfA), rfl⟩
      apply parW_op (ds := [214, 216, 212]) rfl rfl rfl rfl (by kernel_rfl)
      · exact .inl ⟨wtS, stepQ_pv (pv_pick_f rfl rfl tfA rfl) rfl rfl⟩
      apply parW_op (ds := [212, 217]) rfl rfl rfl rfl (by kernel_rfl)
      · exact .inl ⟨(wt_none rfl), stepQ_pv (pv_pick_f rfl rfl tfA rfl) rfl rfl⟩
      apply parW_op (ds := [218]) rfl rfl rfl rfl (by kernel_rfl)
      · exact .inl ⟨(wt_none rfl), stepQ_pv (pv_move rfl rfl) rfl rfl⟩
      apply parW_op (ds := [12, 219]) rfl rfl rfl rfl (by kernel_rfl)
      · exact .inl ⟨wtS, stepQ_pv (pv_move rfl rfl) rfl rfl⟩
      apply parW_op (ds := [220, 219]) rfl rfl rfl rfl (by kernel_rfl)
      · exact .inl ⟨wtS, stepQ_pv (pv_not rfl rfl) rfl rfl⟩
      apply parW_op (ds := [221, 219]) rfl rfl rfl rfl (by kernel_rfl)
      · exact .inl ⟨wtS, stepQ_pv (pv_move rfl rfl) rfl rfl⟩
      apply parW_op (ds := [19, 222]) rfl rfl rfl rfl (by kernel_rfl)
      · exact .inl ⟨wtS, stepQ_pv (pv_move rfl rfl) rfl rfl⟩
      apply parW_op (ds := [223, 222]) rfl rfl rfl rfl (by kernel_rfl)
      · exact .inl ⟨wtS, stepQ_pv (pv_gtr rfl rfl rfl) rfl rfl⟩
      apply parW_op (ds := [222, 224, 219]) rfl rfl rfl rfl (by kernel_rfl)
      · exact .inl ⟨wtS, stepQ_pv (pv_pick_t rfl rfl tfA rfl) rfl rfl⟩
      apply parW_op (ds := [219, 225]) rfl rfl rfl rfl (by kernel_rfl)
      · exact .inl ⟨(wt_none rfl), stepQ_pv (pv_pick_f rfl rfl tfA rfl) rfl rfl⟩
      apply parW_op (ds := [226]) rfl rfl rfl rfl (by kernel_rfl)
      · exact .inl ⟨(wt_none rfl), stepQ_pv (pv_move rfl rfl) rfl rfl⟩
      apply parW_op (ds := [16, 227]) rfl rfl rfl rfl (by kernel_rfl)
      · exact .inl ⟨wtS, stepQ_pv (pv_move rfl rfl) rfl rfl⟩
      apply parW_op (ds := [228, 227]) rfl rfl rfl rfl (by kernel_rfl)
      · exact .inl ⟨wtS, stepQ_pv (pv_eql rfl rfl rfl) rfl rfl⟩
      apply parW_op (ds := [19, 227]) rfl rfl rfl rfl (by kernel_rfl)
      · exact .inl ⟨wtS, stepQ_pv (pv_move rfl rfl) rfl rfl⟩
      apply parW_op (ds := [230, 227]) rfl rfl rfl rfl (by kernel_rfl)
      · exact .inl ⟨wtS, stepQ_pv (pv_leq rfl rfl rfl) rfl rfl⟩
      apply parW_op (ds := [229, 231, 227]) rfl rfl rfl rfl (by kernel_rfl)
      · exact .inl ⟨wtS, stepQ_pv (pv_neqb rfl rfl rfl Try.underlying4) rfl rfl⟩
      apply parW_op (ds := [227, 232]) rfl rfl rfl rfl (by kernel_rfl)
      · exact .inl ⟨(wt_none rfl), stepQ_pv (pv_pick_f rfl rfl tfA rfl) rfl rfl⟩
      refine parW_nil ?_
      rw [d6]
      exact cut_n ⟨rfl, rfl⟩ ssA rcA
    · refine awp_par T0 (l := (0 :: 1 :: 2 :: 3 :: 4 :: 5 :: 6 :: 7 :: 8 :: 9 :: 10 :: 11 :: 12 :: 13 :: 14 :: 15 :: 16 :: 17 :: 18 :: 19 :: 20 :: 21 :: 22 :: 23 :: 24 :: 25 :: 26 :: 27 :: 28 :: 29 :: 30 :: 31 :: 32 :: 33 :: 34 :: 35 :: 36 :: 37 :: 38 :: [])) rfl (by kernel_rfl) (by kernel_rfl) ?_
      apply parW_op (ds := [20]) rfl rfl rfl rfl (by kernel_rfl)
      · exact .inl ⟨(wt_none rfl), stepQ_pv (pv_move rfl rfl) rfl rfl⟩
      apply parW_op (ds := [195]) rfl rfl rfl rfl (by kernel_rfl)
      · refine .inl ⟨(wt_none rfl), ?_⟩
        refine st_call T0 (hS) rfl rfl rfl rfl (by first | exact callee_lit | exact callee_v | exact callee_fn | assumption) rcA raA rfl ?_
        rintro _ rfl
        exact ⟨_, Ghost.refl, rfl⟩
      apply parW_op (ds := [2]) rfl rfl rfl rfl (by kernel_rfl)
      · exact .inl ⟨(wt_none rfl), stepQ_pv (pv_fa T0 rfl rfl rfl (by simp; rfl)) rfl rfl⟩
      apply parW_op (ds := [197]) rfl rfl rfl rfl (by kernel_rfl)
      · exact .inl ⟨(wt_none rfl), stepQ_lv (lv_cl1 T0 rfl rfl rfl rcA raA) rfl rfl⟩
      apply parW_op (ds := [196, 198]) rfl rfl rfl rfl (by kernel_rfl)
      · exact .inl ⟨(wt_none rfl), stepQ_pv (pv_neq rfl rfl rfl) rfl rfl⟩
      apply parW_op (ds := [199]) rfl rfl rfl rfl (by kernel_rfl)
      · exact .inl ⟨(wt_none rfl), stepQ_pv (pv_move rfl rfl) rfl rfl⟩
      apply parW_op (ds := [19, 200]) rfl rfl rfl rfl (by kernel_rfl)
      · exact .inl ⟨wtS, stepQ_pv (pv_move rfl rfl) rfl rfl⟩
      apply parW_op (ds := [9, 200]) rfl rfl rfl rfl (by kernel_rfl)
      · exact .inl ⟨wtS, stepQ_pv (pv_fa T0 rfl rfl rfl (by simp; rfl)) rfl rfl⟩
      apply parW_op (ds := [202, 200]) rfl rfl rfl rfl (by kernel_rfl)
      · exact .inl ⟨wtS, stepQ_lv (lv_cl1 T0 rfl rfl rfl rcA raA) rfl rfl⟩
      apply parW_op (ds := [201, 203, 200]) rfl rfl rfl rfl (by kernel_rfl)
      · exact .inl ⟨wtS, stepQ_pv (pv_lss rfl rfl rfl) rfl rfl⟩
      apply parW_op (ds := [200, 204]) rfl rfl rfl rfl (by kernel_rfl)
      · exact .inl ⟨(wt_none rfl), stepQ_pv (pv_pick_f rfl rfl tfA rfl) rfl rfl⟩
      apply parW_op (ds := [205]) rfl rfl rfl rfl (by kernel_rfl)
      · exact .inl ⟨(wt_none rfl), stepQ_pv (pv_move rfl rfl) rfl rfl⟩
      apply parW_op (ds := [19, 206]) rfl rfl rfl rfl (by kernel_rfl)
      · exact .inl ⟨wtS, stepQ_pv (pv_move rfl rfl) rfl rfl⟩
      apply parW_op (ds := [9, 206]) rfl rfl rfl rfl (by kernel_rfl)
      · exact .inl ⟨wtS, stepQ_pv (pv_fa T0 rfl rfl rfl (by simp; rfl)) rfl rfl⟩
      apply parW_op (ds := [208, 206]) rfl rfl rfl rfl (by kernel_rfl)
      · exact .inl ⟨wtS, stepQ_lv (lv_cl1 T0 rfl rfl rfl rcA raA) rfl rfl⟩
      apply parW_op (ds := [207, 209, 206]) rfl rfl rfl rfl (by kernel_rfl)
      · exact .inl ⟨wtS, stepQ_pv (pv_gtr rfl rfl rfl) rfl rfl⟩
      apply parW_op (ds := [206, 210]) rfl rfl rfl rfl (by kernel_rfl)
      · exact .inl ⟨(wt_none rfl), stepQ_pv (pv_pick_f rfl rfl tfA rfl) rfl rfl⟩
      apply parW_op (ds := [211]) rfl rfl rfl rfl (by kernel_rfl)
      · exact .inl ⟨(wt_none rfl), stepQ_pv (pv_move rfl rfl) rfl rfl⟩
      apply parW_op (ds := [11, 212]) rfl rfl rfl rfl (by kernel_rfl)
      · exact .inl ⟨wtS, stepQ_pv (pv_move rfl rfl) rfl rfl⟩
      apply parW_op (ds := [213, 212]) rfl rfl rfl rfl (by kernel_rfl)
      · exact .inl ⟨wtS, stepQ_pv (pv_move rfl rfl) rfl rfl⟩
      apply parW_op (ds := [19, 214]) rfl rfl rfl rfl (by kernel_rfl)
      · exact .inr ⟨(wf_some rfl rfl rfl rfl tfA), rfl⟩
      apply parW_op (ds := [215, 214]) rfl rfl rfl rfl (by kernel_rfl)
      · exact .inr ⟨(wf_some rfl rfl rfl rfl tfA), rfl⟩
      apply parW_op (ds := [214, 216, 212]) rfl rfl rfl rfl (by kernel_rfl)
      · exact .inl ⟨wtS, stepQ_pv (pv_pick_f rfl rfl tfA rfl) rfl rfl⟩
      apply parW_op (ds := [212, 217]) rfl rfl rfl rfl (by kernel_rfl)
      · exact .inl ⟨(wt_none rfl), stepQ_pv (pv_pick_f rfl rfl tfA rfl) rfl rfl⟩
      apply parW_op (ds := [218]) rfl rfl rfl rfl (by kernel_rfl)
      · exact .inl ⟨(wt_none rfl), stepQ_pv (pv_move rfl rfl) rfl rfl⟩
      apply parW_op (ds := [12, 219]) rfl rfl rfl rfl (by kernel_rfl)
      · exact .inl ⟨wtS, stepQ_pv (pv_move rfl rfl) rfl rfl⟩
      apply parW_op (ds := [220, 219]) rfl rfl rfl rfl (by kernel_rfl)
      · exact .inl ⟨wtS, stepQ_pv (pv_not rfl rfl) rfl rfl⟩
      apply parW_op (ds := [221, 219]) rfl rfl rfl rfl (by kernel_rfl)
      · exact .inl ⟨wtS, stepQ_pv (pv_move rfl rfl) rfl rfl⟩
      apply parW_op (ds := [19, 222]) rfl rfl rfl rfl (by kernel_rfl)
      · exact .inr ⟨(wf_some rfl rfl rfl rfl tfA), rfl⟩
      apply parW_op (ds := [223, 222]) rfl rfl rfl rfl (by kernel_rfl)
      · exact .inr ⟨(wf_some rfl rfl rfl rfl tfA), rfl⟩
      apply parW_op (ds := [222, 224, 219]) rfl rfl rfl rfl (by kernel_rfl)
      · exact .inl ⟨wtS, stepQ_pv (pv_pick_f rfl rfl tfA rfl) rfl rfl⟩
      apply parW_op (ds := [219, 225]) rfl rfl rfl rfl (by kernel_rfl)
      · exact .inl ⟨(wt_none rfl), stepQ_pv (pv_pick_f rfl rfl tfA rfl) rfl rfl⟩
      apply parW_op (ds := [226]) rfl rfl rfl rfl (by kernel_rfl)
      · exact .inl ⟨(wt_none rfl), stepQ_pv (pv_move rfl rfl) rfl rfl⟩
      apply parW_op (ds := [16, 227]) rfl rfl rfl rfl (by kernel_rfl)
      · exact .inl ⟨wtS, stepQ_pv (pv_move rfl rfl) rfl rfl⟩
      apply parW_op (ds := [228, 227]) rfl rfl rfl rfl (by kernel_rfl)
      · exact .inl ⟨wtS, stepQ_pv (pv_eql rfl rfl rfl) rfl rfl⟩
      apply parW_op (ds := [19, 227]) rfl rfl rfl rfl (by kernel_rfl)
      · exact .inl ⟨wtS, stepQ_pv (pv_move rfl rfl) rfl rfl⟩
      apply parW_op (ds := [230, 227]) rfl rfl rfl rfl (by kernel_rfl)
      · exact .inl ⟨wtS, stepQ_pv (pv_leq rfl rfl rfl) rfl rfl⟩
      apply parW_op (ds := [229, 231, 227]) rfl rfl rfl rfl (by kernel_rfl)
      · exact .inl ⟨wtS, stepQ_pv (pv_neqb rfl rfl rfl Try.underlying4) rfl rfl⟩
      apply parW_op (ds := [227, 232]) rfl rfl rfl rfl (by kernel_rfl)
      · exact .inl ⟨(wt_none rfl), stepQ_pv (pv_pick_f rfl rfl tfA rfl) rfl rfl⟩
      refine parW_nil ?_
      rw [d6]
      exact cut_n ⟨rfl, rfl⟩ ssA rcA
  · have s1 := of_decide_eq_true h3
    have d4 : decide (x ≤ 0) = false := decide_eq_false (by omega)
    cases may
    · have s2 := of_decide_eq_false h4
      exfalso; omega
    · refine awp_par T0 (l := (0 :: 1 :: 2 :: 3 :: 4 :: 5 :: 6 :: 7 :: 8 :: 9 :: 10 :: 11 :: 12 :: 13 :: 14 :: 15 :: 16 :: 17 :: 18 :: 19 :: 20 :: 21 :: 22 :: 23 :: 24 :: 25 :: 26 :: 27 :: 28 :: 29 :: 30 :: 31 :: 32 :: 33 :: 34 :: 35 :: 36 :: 37 :: 38 :: [])) rfl (by kernel_rfl) (by kernel_rfl) ?_
      apply parW_op (ds := [20]) rfl rfl rfl rfl (by kernel_rfl)
      · exact .inl ⟨(wt_none rfl), stepQ_pv (pv_move rfl rfl) rfl rfl⟩
      apply parW_op (ds := [195]) rfl rfl rfl rfl (by kernel_rfl)
      · refine .inl ⟨(wt_none rfl), ?_⟩
        refine st_call T0 (hS) rfl rfl rfl rfl (by first | exact callee_lit | exact callee_v | exact callee_fn | assumption) rcA raA rfl ?_
        rintro _ rfl
        exact ⟨_, Ghost.refl, rfl⟩
      apply parW_op (ds := [2]) rfl rfl rfl rfl (by kernel_rfl)
      · exact .inl ⟨(wt_none rfl), stepQ_pv (pv_fa T0 rfl rfl rfl (by simp; rfl)) rfl rfl⟩
      apply parW_op (ds := [197]) rfl rfl rfl rfl (by kernel_rfl)
      · exact .inl ⟨(wt_none rfl), stepQ_lv (lv_cl1 T0 rfl rfl rfl rcA raA) rfl rfl⟩
      apply parW_op (ds := [196, 198]) rfl rfl rfl rfl (by kernel_rfl)
      · exact .inl ⟨(wt_none rfl), stepQ_pv (pv_neq rfl rfl rfl) rfl rfl⟩
      apply parW_op (ds := [199]) rfl rfl rfl rfl (by kernel_rfl)
      · exact .inl ⟨(wt_none rfl), stepQ_pv (pv_move rfl rfl) rfl rfl⟩
      apply parW_op (ds := [19, 200]) rfl rfl rfl rfl (by kernel_rfl)
      · exact .inl ⟨wtS, stepQ_pv (pv_move rfl rfl) rfl rfl⟩
      apply parW_op (ds := [9, 200]) rfl rfl rfl rfl (by kernel_rfl)
      · exact .inl ⟨wtS, stepQ_pv (pv_fa T0 rfl rfl rfl (by simp; rfl)) rfl rfl⟩
      apply parW_op (ds := [202, 200]) rfl rfl rfl rfl (by kernel_rfl)
      · exact .inl ⟨wtS, stepQ_lv (lv_cl1 T0 rfl rfl rfl rcA raA) rfl rfl⟩
      apply parW_op (ds := [201, 203, 200]) rfl rfl rfl rfl (by kernel_rfl)
      · exact .inl ⟨wtS, stepQ_pv (pv_lss rfl rfl rfl) rfl rfl⟩
      apply parW_op (ds := [200, 204]) rfl rfl rfl rfl (by kernel_rfl)
      · exact .inl ⟨(wt_none rfl), stepQ_pv (pv_pick_f rfl rfl tfA rfl) rfl rfl⟩
      apply parW_op (ds := [205]) rfl rfl rfl rfl (by kernel_rfl)
      · exact .inl ⟨(wt_none rfl), stepQ_pv (pv_move rfl rfl) rfl rfl⟩
      apply parW_op (ds := [19, 206]) rfl rfl rfl rfl (by kernel_rfl)
      · exact .inl ⟨wtS, stepQ_pv (pv_move rfl rfl) rfl rfl⟩
      apply parW_op (ds := [9, 206]) rfl rfl rfl rfl (by kernel_rfl)
      · exact .inl ⟨wtS, stepQ_pv (pv_fa T0 rfl rfl rfl (by simp; rfl)) rfl rfl⟩
      apply parW_op (ds := [208, 206]) rfl rfl rfl rfl (by kernel_rfl)
      · exact .inl ⟨wtS, stepQ_lv (lv_cl1 T0 rfl rfl rfl rcA raA) rfl rfl⟩
      apply parW_op (ds := [207, 209, 206]) rfl rfl rfl rfl (by kernel_rfl)
      · exact .inl ⟨wtS, stepQ_pv (pv_gtr rfl rfl rfl) rfl rfl⟩
      apply parW_op (ds := [206, 210]) rfl rfl rfl rfl (by kernel_rfl)
      · exact .inl ⟨(wt_none rfl), stepQ_pv (pv_pick_f rfl rfl tfA rfl) rfl rfl⟩
      apply parW_op (ds := [211]) rfl rfl rfl rfl (by kernel_rfl)
      · exact .inl ⟨(wt_none rfl), stepQ_pv (pv_move rfl rfl) rfl rfl⟩
      apply parW_op (ds := [11, 212]) rfl rfl rfl rfl (by kernel_rfl)
      · exact .inl ⟨wtS, stepQ_pv (pv_move rfl rfl) rfl rfl⟩
      apply parW_op (ds := [213, 212]) rfl rfl rfl rfl (by kernel_rfl)
      · exact .inl ⟨wtS, stepQ_pv (pv_move rfl rfl) rfl rfl⟩
      apply parW_op (ds := [19, 214]) rfl rfl rfl rfl (by kernel_rfl)
      · exact .inl ⟨wtS, stepQ_pv (pv_move rfl rfl) rfl rfl⟩
      apply parW_op (ds := [215, 214]) rfl rfl rfl rfl (by kernel_rfl)
      · exact .inl ⟨wtS, stepQ_pv (pv_leq rfl rfl rfl) rfl rfl⟩
      apply parW_op (ds := [214, 216, 212]) rfl rfl rfl rfl (by kernel_rfl)
      · exact .inl ⟨wtS, stepQ_pv (pv_pick_t rfl rfl tfA rfl) rfl rfl⟩
      apply parW_op (ds := [212, 217]) rfl rfl rfl rfl (by kernel_rfl)
      · exact .inl ⟨(wt_none rfl), stepQ_pv (pv_pick_f rfl rfl tfA rfl) rfl rfl⟩
      apply parW_op (ds := [218]) rfl rfl rfl rfl (by kernel_rfl)
      · exact .inl ⟨(wt_none rfl), stepQ_pv (pv_move rfl rfl) rfl rfl⟩
      apply parW_op (ds := [12, 219]) rfl rfl rfl rfl (by kernel_rfl)
      · exact .inl ⟨wtS, stepQ_pv (pv_move rfl rfl) rfl rfl⟩
      apply parW_op (ds := [220, 219]) rfl rfl rfl rfl (by kernel_rfl)
      · exact .inl ⟨wtS, stepQ_pv (pv_not rfl rfl) rfl rfl⟩
      apply parW_op (ds := [221, 219]) rfl rfl rfl rfl (by kernel_rfl)
      · exact .inl ⟨wtS, stepQ_pv (pv_move rfl rfl) rfl rfl⟩
      apply parW_op (ds := [19, 222]) rfl rfl rfl rfl (by kernel_rfl)
      · exact .inr ⟨(wf_some rfl rfl rfl rfl tfA), rfl⟩
      apply parW_op (ds := [223, 222]) rfl rfl rfl rfl (by kernel_rfl)
      · exact .inr ⟨(wf_some rfl rfl rfl rfl tfA), rfl⟩
      apply parW_op (ds := [222, 224, 219]) rfl rfl rfl rfl (by kernel_rfl)
      · exact .inl ⟨wtS, stepQ_pv (pv_pick_f rfl rfl tfA rfl) rfl rfl⟩
      apply parW_op (ds := [219, 225]) rfl rfl rfl rfl (by kernel_rfl)
      · exact .inl ⟨(wt_none rfl), stepQ_pv (pv_pick_f rfl rfl tfA rfl) rfl rfl⟩
      apply parW_op (ds := [226]) rfl rfl rfl rfl (by kernel_rfl)
      · exact .inl ⟨(wt_none rfl), stepQ_pv (pv_move rfl rfl) rfl rfl⟩
      apply parW_op (ds := [16, 227]) rfl rfl rfl rfl (by kernel_rfl)
      · exact .inl ⟨wtS, stepQ_pv (pv_move rfl rfl) rfl rfl⟩
      apply parW_op (ds := [228, 227]) rfl rfl rfl rfl (by kernel_rfl)
      · exact .inl ⟨wtS, stepQ_pv (pv_eql rfl rfl rfl) rfl rfl⟩
      apply parW_op (ds := [19, 227]) rfl rfl rfl rfl (by kernel_rfl)
      · exact .inl ⟨wtS, stepQ_pv (pv_move rfl rfl) rfl rfl⟩
      apply parW_op (ds := [230, 227]) rfl rfl rfl rfl (by kernel_rfl)
      · exact .inl ⟨wtS, stepQ_pv (pv_leq rfl rfl rfl) rfl rfl⟩
      apply parW_op (ds := [229, 231, 227]) rfl rfl rfl rfl (by kernel_rfl)
      · exact .inl ⟨wtS, stepQ_pv (pv_neqb rfl rfl rfl Try.underlying4) rfl rfl⟩
      apply parW_op (ds := [227, 232]) rfl rfl rfl rfl (by kernel_rfl)
      · exact .inl ⟨(wt_none rfl), stepQ_pv (pv_pick_f rfl rfl tfA rfl) rfl rfl⟩
      refine parW_nil ?_
      rw [d6]
      exact cut_n ⟨rfl, rfl⟩ ssA rcA
theorem li_22 {S : List SalC} {co : Int} (hf : faultN m = 0) (ht : truthB m t = true) (hS : SetS m t S) (hco : coK m S S.length = co) (hl : S.length ≤ 36) {ops : Array Oper} (h : regF Try.f8 22 = some ops) :
    AWP Try.prog Try.f8.ntmps none (.region 22 ops true) (cutQ (fun s h => s = [(4, boolA true)] ∧ h = []))
      [(2, .v (ptrV g2)), (5, .t (intsT true t)), (14, .t (salcT true S)), (15, intA co)] [.cl g2 25 [intA m.ex, .t (housT false m.hou), .t (consT false m.con)]] := by
  cases h
  have hv := vmkt hf
  have hlen := hv.len
  have hclen := hv.clen
  have htl := (truth_iff.1 ht).1
  have b1 := back_p true S (by omega)
  have c1 := issettled_p false false true true m t S hv ht (by omega) hS
  have c2 := cost_p false false true true m t S hv ht (by omega) hS
  have c3 := provesettled_p true true true true m t S co (by omega) (by omega) (by omega) (by omega)
  rw [proves_yes hf ht hS (by omega)] at c3
  have c4 := market_p m (by omega) (by omega)
  have c5 := list_p true t (by omega)
  have d1 : decide (co = co) = true := decide_eq_true rfl
  rw [hco] at c2
  refine awp_par T0 (l := (0 :: 1 :: 2 :: 3 :: 4 :: 5 :: 6 :: 7 :: 8 :: 9 :: 10 :: 11 :: 12 :: 13 :: 14 :: 15 :: 16 :: 17 :: 18 :: 19 :: 20 :: 21 :: 22 :: 23 :: 24 :: 25 :: [])) rfl (by kernel_rfl) (by kernel_rfl) ?_
  apply parW_op (ds := [2]) rfl rfl rfl rfl (by kernel_rfl)
  · exact .inl ⟨(wt_none rfl), stepQ_lv (lv_cla T0 rfl rfl rfl rcA rfl) rfl rfl⟩
  apply parW_op (ds := [5]) rfl rfl rfl rfl (by kernel_rfl)
  · exact .inl ⟨(wt_none rfl), stepQ_pv (pv_move rfl rfl) rfl rfl⟩
  apply parW_op (ds := [14]) rfl rfl rfl rfl (by kernel_rfl)
  · exact .inl ⟨(wt_none rfl), stepQ_pv (pv_move rfl rfl) rfl rfl⟩
  apply parW_op (ds := [243]) rfl rfl rfl rfl (by kernel_rfl)
  · refine .inl ⟨(wt_none rfl), ?_⟩
    refine st_call T0 (b1) rfl rfl rfl rfl (by first | exact callee_lit | exact callee_v | exact callee_fn | assumption) rcA raA rfl ?_
    rintro _ rfl
    exact ⟨_, Ghost.refl, rfl⟩
  apply parW_op (ds := [241, 242, 244]) rfl rfl rfl rfl (by kernel_rfl)
  · refine .inl ⟨(wt_none rfl), ?_⟩
    refine st_call T0 (c1) rfl rfl rfl rfl (by first | exact callee_lit | exact callee_v | exact callee_fn | assumption) rcA raA rfl ?_
    rintro _ rfl
    exact ⟨_, Ghost.refl, rfl⟩
  apply parW_op (ds := [245]) rfl rfl rfl rfl (by kernel_rfl)
  · exact .inl ⟨(wt_none rfl), stepQ_pv (pv_move rfl rfl) rfl rfl⟩
  apply parW_op (ds := [2, 246]) rfl rfl rfl rfl (by kernel_rfl)
  · exact .inl ⟨wtS, stepQ_lv (lv_cla T0 rfl rfl rfl rcA rfl) rfl rfl⟩
  apply parW_op (ds := [14, 246]) rfl rfl rfl rfl (by kernel_rfl)
  · exact .inl ⟨wtS, stepQ_pv (pv_move rfl rfl) rfl rfl⟩
  apply parW_op (ds := [248, 246]) rfl rfl rfl rfl (by kernel_rfl)
  · refine .inl ⟨wtS, ?_⟩
    refine st_call T0 (b1) rfl rfl rfl rfl (by first | exact callee_lit | exact callee_v | exact callee_fn | assumption) rcA raA rfl ?_
    rintro _ rfl
    exact ⟨_, Ghost.refl, rfl⟩
  apply parW_op (ds := [247, 249, 246]) rfl rfl rfl rfl (by kernel_rfl)
  · refine .inl ⟨wtS, ?_⟩
    refine st_call T0 (c2) rfl rfl rfl rfl (by first | exact callee_lit | exact callee_v | exact callee_fn | assumption) rcA raA rfl ?_
    rintro _ rfl
    exact ⟨_, Ghost.refl, rfl⟩
  apply parW_op (ds := [15, 246]) rfl rfl rfl rfl (by kernel_rfl)
  · exact .inl ⟨wtS, stepQ_pv (pv_move rfl rfl) rfl rfl⟩
  apply parW_op (ds := [250, 251, 246]) rfl rfl rfl rfl (by kernel_rfl)
  · exact .inl ⟨wtS, stepQ_pv (pv_eql rfl rfl rfl) rfl rfl⟩
  apply parW_op (ds := [246, 252]) rfl rfl rfl rfl (by kernel_rfl)
  · exact .inl ⟨(wt_none rfl), stepQ_pv (pv_pick_t rfl rfl tfA rfl) rfl rfl⟩
  apply parW_op (ds := [253]) rfl rfl rfl rfl (by kernel_rfl)
  · exact .inl ⟨(wt_none rfl), stepQ_pv (pv_move rfl rfl) rfl rfl⟩
  apply parW_op (ds := [2, 254]) rfl rfl rfl rfl (by kernel_rfl)
  · exact .inl ⟨wtS, stepQ_lv (lv_cla T0 rfl rfl rfl rcA rfl) rfl rfl⟩
  apply parW_op (ds := [255, 254]) rfl rfl rfl rfl (by kernel_rfl)
  · refine .inl ⟨wtS, ?_⟩
    refine st_call T0 (c4) rfl rfl rfl rfl (by first | exact callee_lit | exact callee_v | exact callee_fn | assumption) rcA raA rfl ?_
    rintro _ rfl
    exact ⟨_, Ghost.refl, rfl⟩
  apply parW_op (ds := [5, 254]) rfl rfl rfl rfl (by kernel_rfl)
  · exact .inl ⟨wtS, stepQ_pv (pv_move rfl rfl) rfl rfl⟩
  apply parW_op (ds := [257, 254]) rfl rfl rfl rfl (by kernel_rfl)
  · refine .inl ⟨wtS, ?_⟩
    refine st_call T0 (c5) rfl rfl rfl rfl (by first | exact callee_lit | exact callee_v | exact callee_fn | assumption) rcA raA rfl ?_
    rintro _ rfl
    exact ⟨_, Ghost.refl, rfl⟩
  apply parW_op (ds := [14, 254]) rfl rfl rfl rfl (by kernel_rfl)
  · exact .inl ⟨wtS, stepQ_pv (pv_move rfl rfl) rfl rfl⟩
  apply parW_op (ds := [15, 254]) rfl rfl rfl rfl (by kernel_rfl)
  · exact .inl ⟨wtS, stepQ_pv (pv_move rfl rfl) rfl rfl⟩
  apply parW_op (ds := [256, 258, 259, 260, 254]) rfl rfl rfl rfl (by kernel_rfl)
  · refine .inl ⟨wtS, ?_⟩
    refine st_call T0 (c3) rfl rfl rfl rfl (by first | exact callee_lit | exact callee_v | exact callee_fn | assumption) rcA raA rfl ?_
    rintro _ rfl
    exact ⟨_, Ghost.refl, rfl⟩
  apply parW_op (ds := [254, 261]) rfl rfl rfl rfl (by kernel_rfl)
  · exact .inl ⟨(wt_none rfl), stepQ_pv (pv_pick_t rfl rfl tfA rfl) rfl rfl⟩
  apply parW_op (ds := [262]) rfl rfl rfl rfl (by kernel_rfl)
  · exact .inl ⟨(wt_none rfl), stepQ_pv (pv_move rfl rfl) rfl rfl⟩
  apply parW_op (ds := [263]) rfl rfl rfl rfl (by kernel_rfl)
  · refine .inl ⟨wtS, ?_⟩
    refine st_call T0 (awake_p) rfl rfl rfl rfl (by first | exact callee_lit | exact callee_v | exact callee_fn | assumption) rcA raA rfl ?_
    rintro _ rfl
    exact ⟨_, Ghost.refl, rfl⟩
  apply parW_op (ds := [263, 264]) rfl rfl rfl rfl (by kernel_rfl)
  · exact .inl ⟨(wt_none rfl), stepQ_pv (pv_pick_t rfl rfl tfA rfl) rfl rfl⟩
  apply parW_op (ds := [265]) rfl rfl rfl rfl (by kernel_rfl)
  · exact .inl ⟨(wt_none rfl), stepQ_pv (pv_assign rfl rfl) rfl rfl⟩
  refine parW_nil ?_
  exact cut_n ⟨rfl, rfl⟩ ssA rcA
end
end Go.Proofs.Ytallicfckbdeaaa
