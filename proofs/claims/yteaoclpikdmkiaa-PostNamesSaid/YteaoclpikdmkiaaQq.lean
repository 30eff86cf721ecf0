/- The law PostNames: its walk. -/
import Derived.Test.YteaoclpikdmkiaaOi
import Derived.Test.YteaoclpikdmkiaaNl
import Derived.Test.YteaoclpikdmkiaaGTs
import Derived.Test.YteaoclpikdmkiaaPar
import Derived.Test.YteaoclpikdmkiaaTlw
import Derived.Test.YteaoclpikdmkiaaTy
import Derived.Test.YteaoclpikdmkiaaTz
import Derived.Test.YteaoclpikdmkiaaTv
namespace Go.Proofs.Yteaoclpikdmkiaa
open Go Go.RowKit Go.Tl
set_option linter.unusedVariables false
set_option linter.unusedSimpArgs false
set_option maxRecDepth 100000
set_option maxHeartbeats 4000000
abbrev soldS : List SaleD := [⟨2, 1, 4, 38⟩, oneS]
abbrev nil7 : List SaleD := List.replicate 7 ⟨0, 0, 0, 0⟩
theorem nm_play : playR fourP [3, 2, 2, 0] = (soldS, 0) := by kernel_rfl
theorem nm_leave : leaveR fourP [oneS] = ([], 0) := by rw [leave_eq]; kernel_rfl
theorem nm_expl : explainR fourP [] = ([1, 2, 2, 0], 0) := by rw [explain_eq]; kernel_rfl
theorem nm_p1 : proveB fourP [1, 2, 2, 0] [] = true := by rw [prove_eq]; kernel_rfl
theorem nm_p2 : proveB fourP [3, 2, 2, 0] [oneS, oneS] = false := by rw [prove_eq]; kernel_rfl
theorem nm_p3 : proveB fourP [1, 2, 3, 0] [oneS] = false := by rw [prove_eq]; kernel_rfl
theorem nm_p4 : proveB fourP [0, 2, 3, 0] [] = false := by rw [prove_eq]; kernel_rfl
theorem nm_play2 : playR fourP [1, 2, 5, 0] = ([], 2) := by kernel_rfl
theorem nm_expl2 : explainR fourP [oneS, otherS] = ([], 11) := by rw [explain_eq]; kernel_rfl
theorem nm_expl3 : explainR fourP nil7 = ([], 3) := by rw [explain_eq]; kernel_rfl
abbrev twoP : PostD := ⟨[⟨false, 40, 5, 1, 3⟩, ⟨false, 38, 4, 2, 2⟩]⟩
theorem nm_open : openR twoP = (0, 0, 7) := by kernel_rfl
theorem nm_sure : surelyR ⟨[]⟩ = ([], 1) := by kernel_rfl
abbrev xLim : PostD := ⟨[⟨false, 101, 5, 1, 3⟩, ⟨false, 38, 4, 2, 2⟩, ⟨true, 41, 6, 2, 4⟩, ⟨true, 37, 3, 0, 0⟩]⟩
abbrev xNum : PostD := ⟨[⟨false, 40, 0, 1, 3⟩, ⟨false, 38, 4, 2, 2⟩, ⟨true, 41, 6, 2, 4⟩, ⟨true, 37, 3, 0, 0⟩]⟩
abbrev xMin : PostD := ⟨[⟨false, 40, 5, 3, 2⟩, ⟨false, 38, 4, 2, 2⟩, ⟨true, 41, 6, 2, 4⟩, ⟨true, 37, 3, 0, 0⟩]⟩
abbrev xMany : PostD := ⟨List.replicate 7 ⟨false, 0, 0, 0, 0⟩⟩
theorem salesT_nilA : AVLe (.v (.slice none 0 0)) (.t (salesT true [])) := .nil
theorem two_le {cp : Bool} : TrLe (.sl cp 5 2 (fun k => ordL (fourP.ords.getD k default))) (ordsT cp twoP.ords) := .sl (fun h => h) (fun k hk => by
  match k, hk with
  | 0, _ => exact ⟨rfl, fun j x x' h1 h2 => by
      have : some x = some x' := h1.symm.trans h2
      cases this; exact .refl _⟩
  | 1, _ => exact ⟨rfl, fun j x x' h1 h2 => by
      have : some x = some x' := h1.symm.trans h2
      cases this; exact .refl _⟩)
theorem hfld34 (v : Value) (w : World) : (Instr.field 34 (.agg #[v]) 0).run Try.prog w = .ok v w := by kernel_rfl
theorem pv_field34 {o : Oper} {s : Slots} {x : Operand} {y : AV} (ho : o.op = .field 34 x 0) (hx : evA s x = some (.ag [y])) : PV Try.prog o s y := fun w S a hs => by
  have h1 := hs.eval hx
  generalize hv : a.eval x = v at *
  cases h1 with
  | @ag _ vs hl hh =>
    obtain ⟨u, hu, hr⟩ := VRels.get (cs := [y]) (j := 0) ⟨hl, hh⟩ rfl
    match vs, hl, hu with
    | [u'], _, hu =>
      obtain rfl : u' = u := Option.some.inj hu
      exact ⟨u', fun w' => by have := hfld34 u' w'; simp [execOp, ho, hv, this], hr⟩
attribute [local irreducible] AWP AWL AOp PV LV AWT AWE
theorem qq_4 {ops : Array Oper} (h : regF Try.f8 4 = some ops) :
    AWP Try.prog Try.f8.ntmps none (.region 4 ops true) (cutQ (fun s h => s = [(86, boolA false)] ∧ h = []))
      [(1, .t (salesT true soldS)), (2, intA 0), (3, .t (intsT true [])), (4, intA 0), (5, .t (intsT true [1, 2, 2, 0])), (6, intA 0)] [] := by
  cases h
  have hP1 : PCall Try.prog 43 [postA true fourP, .t (intsT true [1, 2, 2, 0]), .v (.slice none 0 0)] (fun r => r = boolA true) := by
    have := ProveTruth_p true true true fourP [1, 2, 2, 0] [] (by decide) (by decide) (by decide)
    rw [nm_p1] at this
    exact pcall_weak this (.cons (.refl _) (.cons (.refl _) (.cons .nil .nil)))
  have hP2 := ProveTruth_p true true true fourP [3, 2, 2, 0] [oneS, oneS] (by decide) (by decide) (by decide)
  rw [nm_p2] at hP2
  have hP3 := ProveTruth_p true true true fourP [1, 2, 3, 0] [oneS] (by decide) (by decide) (by decide)
  rw [nm_p3] at hP3
  have hP4 : PCall Try.prog 43 [postA true fourP, .t (intsT true [0, 2, 3, 0]), .v (.slice none 0 0)] (fun r => r = boolA false) := by
    have := ProveTruth_p true true true fourP [0, 2, 3, 0] [] (by decide) (by decide) (by decide)
    rw [nm_p4] at this
    exact pcall_weak this (.cons (.refl _) (.cons (.refl _) (.cons .nil .nil)))
  refine awp_par T0 (l := (0 :: 1 :: 2 :: 3 :: 4 :: 5 :: 6 :: 7 :: 8 :: 9 :: 10 :: 11 :: 12 :: 13 :: 14 :: 15 :: 16 :: 17 :: 18 :: 19 :: 20 :: 21 :: 22 :: 23 :: 24 :: 25 :: 26 :: 27 :: 28 :: 29 :: 30 :: 31 :: 32 :: 33 :: 34 :: 35 :: 36 :: 37 :: 38 :: 39 :: 40 :: 41 :: 42 :: 43 :: 44 :: 45 :: 46 :: 47 :: 48 :: 49 :: 50 :: 51 :: 52 :: [])) rfl (by kernel_rfl) (by kernel_rfl) ?_
  apply parW_op (ds := [2]) rfl rfl rfl rfl (by kernel_rfl)
  · exact .inl ⟨(wt_none rfl), stepQ_pv (pv_move rfl rfl) rfl rfl⟩
  apply parW_op (ds := [34]) rfl rfl rfl rfl (by kernel_rfl)
  · first | exact .inl ⟨(wt_none rfl), stepQ_pv (pv_neq rfl rfl rfl) rfl rfl⟩ | exact .inl ⟨(wt_none rfl), stepQ_pv (pv_neqb rfl rfl rfl Try.underlying4) rfl rfl⟩
  apply parW_op (ds := [35]) rfl rfl rfl rfl (by kernel_rfl)
  · exact .inl ⟨(wt_none rfl), stepQ_pv (pv_move rfl rfl) rfl rfl⟩
  apply parW_op (ds := [1, 36]) rfl rfl rfl rfl (by kernel_rfl)
  · first | exact .inl ⟨(wt_some' rfl rfl rfl rfl (by first | rfl | assumption | exact dT (by omega) | exact dF (by omega))), stepQ_pv (pv_move rfl rfl) rfl rfl⟩ | exact .inr ⟨(wf_some rfl rfl rfl rfl (by first | rfl | assumption | exact dT (by omega) | exact dF (by omega))), rfl⟩
  apply parW_op (ds := [37, 36]) rfl rfl rfl rfl (by kernel_rfl)
  · first | exact .inl ⟨(wt_some' rfl rfl rfl rfl (by first | rfl | assumption | exact dT (by omega) | exact dF (by omega))), stepQ_pv (pv_len_t T0 rfl rfl rfl) rfl rfl⟩ | exact .inl ⟨(wt_some' rfl rfl rfl rfl (by first | rfl | assumption | exact dT (by omega) | exact dF (by omega))), stepQ_pv (pv_len_v T0 rfl rfl rfl) rfl rfl⟩ | exact .inr ⟨(wf_some rfl rfl rfl rfl (by first | rfl | assumption | exact dT (by omega) | exact dF (by omega))), rfl⟩
  apply parW_op (ds := [38, 36]) rfl rfl rfl rfl (by kernel_rfl)
  · first | exact .inl ⟨(wt_some' rfl rfl rfl rfl (by first | rfl | assumption | exact dT (by omega) | exact dF (by omega))), stepQ_pv (pv_neq rfl rfl rfl) rfl rfl⟩ | exact .inl ⟨(wt_some' rfl rfl rfl rfl (by first | rfl | assumption | exact dT (by omega) | exact dF (by omega))), stepQ_pv (pv_neqb rfl rfl rfl Try.underlying4) rfl rfl⟩ | exact .inr ⟨(wf_some rfl rfl rfl rfl (by first | rfl | assumption | exact dT (by omega) | exact dF (by omega))), rfl⟩
  apply parW_op (ds := [36, 39]) rfl rfl rfl rfl (by kernel_rfl)
  · first | exact .inl ⟨(wt_none rfl), stepQ_pv (pv_pick_t rfl rfl (by first | rfl | assumption | exact dT (by omega) | exact dF (by omega)) rfl) rfl rfl⟩ | exact .inl ⟨(wt_none rfl), stepQ_pv (pv_pick_f rfl rfl (by first | rfl | assumption | exact dT (by omega) | exact dF (by omega)) rfl) rfl rfl⟩
  apply parW_op (ds := [40]) rfl rfl rfl rfl (by kernel_rfl)
  · exact .inl ⟨(wt_none rfl), stepQ_pv (pv_move rfl rfl) rfl rfl⟩
  apply parW_op (ds := [1, 41]) rfl rfl rfl rfl (by kernel_rfl)
  · first | exact .inl ⟨(wt_some' rfl rfl rfl rfl (by first | rfl | assumption | exact dT (by omega) | exact dF (by omega))), stepQ_pv (pv_move rfl rfl) rfl rfl⟩ | exact .inr ⟨(wf_some rfl rfl rfl rfl (by first | rfl | assumption | exact dT (by omega) | exact dF (by omega))), rfl⟩
  apply parW_op (ds := [42, 41]) rfl rfl rfl rfl (by kernel_rfl)
  · first | exact .inl ⟨(wt_some' rfl rfl rfl rfl (by first | rfl | assumption | exact dT (by omega) | exact dF (by omega))), stepQ_pv (pv_ix_t T0 rfl rfl rfl rfl (by decide) rfl) rfl rfl⟩ | exact .inr ⟨(wf_some rfl rfl rfl rfl (by first | rfl | assumption | exact dT (by omega) | exact dF (by omega))), rfl⟩
  apply parW_op (ds := [43, 41]) rfl rfl rfl rfl (by kernel_rfl)
  · first | exact .inl ⟨(wt_some' rfl rfl rfl rfl (by first | rfl | assumption | exact dT (by omega) | exact dF (by omega))), stepQ_lv (lv_cl1 T0 rfl rfl rfl (by solve | repeat' constructor) (by first | rfl | assumption)) rfl rfl⟩ | exact .inl ⟨(wt_some' rfl rfl rfl rfl (by first | rfl | assumption | exact dT (by omega) | exact dF (by omega))), stepQ_lv (lv_cla T0 rfl rfl rfl (by solve | repeat' constructor) rfl) rfl rfl⟩ | exact .inl ⟨(wt_some' rfl rfl rfl rfl (by first | rfl | assumption | exact dT (by omega) | exact dF (by omega))), stepQ_lv (lv_elt_sc T0 rfl rfl rfl rfl) rfl rfl⟩ | exact .inl ⟨(wt_some' rfl rfl rfl rfl (by first | rfl | assumption | exact dT (by omega) | exact dF (by omega))), stepQ_lv (lv_elt_sl T0 rfl rfl rfl rfl) rfl rfl⟩ | exact .inl ⟨(wt_some' rfl rfl rfl rfl (by first | rfl | assumption | exact dT (by omega) | exact dF (by omega))), stepQ_lv (lv_elt_ag T0 rfl rfl rfl rfl (by solve | repeat' constructor)) rfl rfl⟩ | exact .inl ⟨(wt_some' rfl rfl rfl rfl (by first | rfl | assumption | exact dT (by omega) | exact dF (by omega))), stepQ_lv (lv_rp T0 rfl rfl rfl (by solve | repeat' constructor) (by first | omega | (simp; omega)) (by omega) (by first | assumption | rfl)) rfl rfl⟩ | exact .inl ⟨(wt_some' rfl rfl rfl rfl (by first | rfl | assumption | exact dT (by omega) | exact dF (by omega))), stepQ_lv (lv_clp T0 rfl rfl rfl (by solve | repeat' constructor) rfl rfl) rfl rfl⟩ | exact .inl ⟨(wt_some' rfl rfl rfl rfl (by first | rfl | assumption | exact dT (by omega) | exact dF (by omega))), stepQ_lv (lv_rpa T0 rfl rfl rfl (by solve | repeat' constructor) (by first | omega | (simp; omega)) (by first | assumption | rfl)) rfl rfl⟩ | exact .inr ⟨(wf_some rfl rfl rfl rfl (by first | rfl | assumption | exact dT (by omega) | exact dF (by omega))), rfl⟩
  apply parW_op (ds := [41]) rfl rfl rfl rfl (by kernel_rfl)
  · refine .inl ⟨(wt_some' rfl rfl rfl rfl (by first | rfl | assumption | exact dT (by omega) | exact dF (by omega))), ?_⟩
    refine st_call T0 (one_p) rfl rfl rfl rfl (by first | exact callee_lit | exact callee_v | exact callee_fn | assumption) (by solve | repeat' constructor) (by first | rfl | assumption) rfl ?_
    rintro _ rfl
    exact ⟨_, Ghost.refl, rfl⟩
  apply parW_op (ds := [44, 45, 41]) rfl rfl rfl rfl (by kernel_rfl)
  · first | exact .inl ⟨(wt_some' rfl rfl rfl rfl (by first | rfl | assumption | exact dT (by omega) | exact dF (by omega))), stepQ_pv (pv_neq_sale (s := oneS) (t := oneS) rfl rfl rfl) rfl rfl⟩ | exact .inr ⟨(wf_some rfl rfl rfl rfl (by first | rfl | assumption | exact dT (by omega) | exact dF (by omega))), rfl⟩
  apply parW_op (ds := [41, 46]) rfl rfl rfl rfl (by kernel_rfl)
  · first | exact .inl ⟨(wt_none rfl), stepQ_pv (pv_pick_t rfl rfl (by first | rfl | assumption | exact dT (by omega) | exact dF (by omega)) rfl) rfl rfl⟩ | exact .inl ⟨(wt_none rfl), stepQ_pv (pv_pick_f rfl rfl (by first | rfl | assumption | exact dT (by omega) | exact dF (by omega)) rfl) rfl rfl⟩
  apply parW_op (ds := [47]) rfl rfl rfl rfl (by kernel_rfl)
  · exact .inl ⟨(wt_none rfl), stepQ_pv (pv_move rfl rfl) rfl rfl⟩
  apply parW_op (ds := [4, 48]) rfl rfl rfl rfl (by kernel_rfl)
  · first | exact .inl ⟨(wt_some' rfl rfl rfl rfl (by first | rfl | assumption | exact dT (by omega) | exact dF (by omega))), stepQ_pv (pv_move rfl rfl) rfl rfl⟩ | exact .inr ⟨(wf_some rfl rfl rfl rfl (by first | rfl | assumption | exact dT (by omega) | exact dF (by omega))), rfl⟩
  apply parW_op (ds := [49, 48]) rfl rfl rfl rfl (by kernel_rfl)
  · first | exact .inl ⟨(wt_some' rfl rfl rfl rfl (by first | rfl | assumption | exact dT (by omega) | exact dF (by omega))), stepQ_pv (pv_neq rfl rfl rfl) rfl rfl⟩ | exact .inl ⟨(wt_some' rfl rfl rfl rfl (by first | rfl | assumption | exact dT (by omega) | exact dF (by omega))), stepQ_pv (pv_neqb rfl rfl rfl Try.underlying4) rfl rfl⟩ | exact .inr ⟨(wf_some rfl rfl rfl rfl (by first | rfl | assumption | exact dT (by omega) | exact dF (by omega))), rfl⟩
  apply parW_op (ds := [48, 50]) rfl rfl rfl rfl (by kernel_rfl)
  · first | exact .inl ⟨(wt_none rfl), stepQ_pv (pv_pick_t rfl rfl (by first | rfl | assumption | exact dT (by omega) | exact dF (by omega)) rfl) rfl rfl⟩ | exact .inl ⟨(wt_none rfl), stepQ_pv (pv_pick_f rfl rfl (by first | rfl | assumption | exact dT (by omega) | exact dF (by omega)) rfl) rfl rfl⟩
  apply parW_op (ds := [51]) rfl rfl rfl rfl (by kernel_rfl)
  · exact .inl ⟨(wt_none rfl), stepQ_pv (pv_move rfl rfl) rfl rfl⟩
  apply parW_op (ds := [3, 52]) rfl rfl rfl rfl (by kernel_rfl)
  · first | exact .inl ⟨(wt_some' rfl rfl rfl rfl (by first | rfl | assumption | exact dT (by omega) | exact dF (by omega))), stepQ_pv (pv_move rfl rfl) rfl rfl⟩ | exact .inr ⟨(wf_some rfl rfl rfl rfl (by first | rfl | assumption | exact dT (by omega) | exact dF (by omega))), rfl⟩
  apply parW_op (ds := [53, 52]) rfl rfl rfl rfl (by kernel_rfl)
  · first | exact .inl ⟨(wt_some' rfl rfl rfl rfl (by first | rfl | assumption | exact dT (by omega) | exact dF (by omega))), stepQ_pv (pv_len_t T0 rfl rfl rfl) rfl rfl⟩ | exact .inl ⟨(wt_some' rfl rfl rfl rfl (by first | rfl | assumption | exact dT (by omega) | exact dF (by omega))), stepQ_pv (pv_len_v T0 rfl rfl rfl) rfl rfl⟩ | exact .inr ⟨(wf_some rfl rfl rfl rfl (by first | rfl | assumption | exact dT (by omega) | exact dF (by omega))), rfl⟩
  apply parW_op (ds := [54, 52]) rfl rfl rfl rfl (by kernel_rfl)
  · first | exact .inl ⟨(wt_some' rfl rfl rfl rfl (by first | rfl | assumption | exact dT (by omega) | exact dF (by omega))), stepQ_pv (pv_neq rfl rfl rfl) rfl rfl⟩ | exact .inl ⟨(wt_some' rfl rfl rfl rfl (by first | rfl | assumption | exact dT (by omega) | exact dF (by omega))), stepQ_pv (pv_neqb rfl rfl rfl Try.underlying4) rfl rfl⟩ | exact .inr ⟨(wf_some rfl rfl rfl rfl (by first | rfl | assumption | exact dT (by omega) | exact dF (by omega))), rfl⟩
  apply parW_op (ds := [52, 55]) rfl rfl rfl rfl (by kernel_rfl)
  · first | exact .inl ⟨(wt_none rfl), stepQ_pv (pv_pick_t rfl rfl (by first | rfl | assumption | exact dT (by omega) | exact dF (by omega)) rfl) rfl rfl⟩ | exact .inl ⟨(wt_none rfl), stepQ_pv (pv_pick_f rfl rfl (by first | rfl | assumption | exact dT (by omega) | exact dF (by omega)) rfl) rfl rfl⟩
  apply parW_op (ds := [56]) rfl rfl rfl rfl (by kernel_rfl)
  · exact .inl ⟨(wt_none rfl), stepQ_pv (pv_move rfl rfl) rfl rfl⟩
  apply parW_op (ds := [6, 57]) rfl rfl rfl rfl (by kernel_rfl)
  · first | exact .inl ⟨(wt_some' rfl rfl rfl rfl (by first | rfl | assumption | exact dT (by omega) | exact dF (by omega))), stepQ_pv (pv_move rfl rfl) rfl rfl⟩ | exact .inr ⟨(wf_some rfl rfl rfl rfl (by first | rfl | assumption | exact dT (by omega) | exact dF (by omega))), rfl⟩
  apply parW_op (ds := [58, 57]) rfl rfl rfl rfl (by kernel_rfl)
  · first | exact .inl ⟨(wt_some' rfl rfl rfl rfl (by first | rfl | assumption | exact dT (by omega) | exact dF (by omega))), stepQ_pv (pv_neq rfl rfl rfl) rfl rfl⟩ | exact .inl ⟨(wt_some' rfl rfl rfl rfl (by first | rfl | assumption | exact dT (by omega) | exact dF (by omega))), stepQ_pv (pv_neqb rfl rfl rfl Try.underlying4) rfl rfl⟩ | exact .inr ⟨(wf_some rfl rfl rfl rfl (by first | rfl | assumption | exact dT (by omega) | exact dF (by omega))), rfl⟩
  apply parW_op (ds := [57, 59]) rfl rfl rfl rfl (by kernel_rfl)
  · first | exact .inl ⟨(wt_none rfl), stepQ_pv (pv_pick_t rfl rfl (by first | rfl | assumption | exact dT (by omega) | exact dF (by omega)) rfl) rfl rfl⟩ | exact .inl ⟨(wt_none rfl), stepQ_pv (pv_pick_f rfl rfl (by first | rfl | assumption | exact dT (by omega) | exact dF (by omega)) rfl) rfl rfl⟩
  apply parW_op (ds := [60]) rfl rfl rfl rfl (by kernel_rfl)
  · exact .inl ⟨(wt_none rfl), stepQ_pv (pv_move rfl rfl) rfl rfl⟩
  apply parW_op (ds := [61]) rfl rfl rfl rfl (by kernel_rfl)
  · refine .inl ⟨(wt_some' rfl rfl rfl rfl (by first | rfl | assumption | exact dT (by omega) | exact dF (by omega))), ?_⟩
    refine st_call T0 (four_p) rfl rfl rfl rfl (by first | exact callee_lit | exact callee_v | exact callee_fn | assumption) (by solve | repeat' constructor) (by first | rfl | assumption) rfl ?_
    rintro _ rfl
    exact ⟨_, Ghost.refl, rfl⟩
  apply parW_op (ds := [5, 61]) rfl rfl rfl rfl (by kernel_rfl)
  · first | exact .inl ⟨(wt_some' rfl rfl rfl rfl (by first | rfl | assumption | exact dT (by omega) | exact dF (by omega))), stepQ_pv (pv_move rfl rfl) rfl rfl⟩ | exact .inr ⟨(wf_some rfl rfl rfl rfl (by first | rfl | assumption | exact dT (by omega) | exact dF (by omega))), rfl⟩
  apply parW_op (ds := [62, 63, 61]) rfl rfl rfl rfl (by kernel_rfl)
  · refine .inl ⟨(wt_some' rfl rfl rfl rfl (by first | rfl | assumption | exact dT (by omega) | exact dF (by omega))), ?_⟩
    refine st_call T0 (hP1) rfl rfl rfl rfl (by first | exact callee_lit | exact callee_v | exact callee_fn | assumption) (by solve | repeat' constructor) (by first | rfl | assumption) rfl ?_
    rintro _ rfl
    exact ⟨_, Ghost.refl, rfl⟩
  apply parW_op (ds := [64, 61]) rfl rfl rfl rfl (by kernel_rfl)
  · first | exact .inl ⟨(wt_some' rfl rfl rfl rfl (by first | rfl | assumption | exact dT (by omega) | exact dF (by omega))), stepQ_pv (pv_not rfl rfl) rfl rfl⟩ | exact .inr ⟨(wf_some rfl rfl rfl rfl (by first | rfl | assumption | exact dT (by omega) | exact dF (by omega))), rfl⟩
  apply parW_op (ds := [61, 65]) rfl rfl rfl rfl (by kernel_rfl)
  · first | exact .inl ⟨(wt_none rfl), stepQ_pv (pv_pick_t rfl rfl (by first | rfl | assumption | exact dT (by omega) | exact dF (by omega)) rfl) rfl rfl⟩ | exact .inl ⟨(wt_none rfl), stepQ_pv (pv_pick_f rfl rfl (by first | rfl | assumption | exact dT (by omega) | exact dF (by omega)) rfl) rfl rfl⟩
  apply parW_op (ds := [66]) rfl rfl rfl rfl (by kernel_rfl)
  · exact .inl ⟨(wt_none rfl), stepQ_pv (pv_move rfl rfl) rfl rfl⟩
  apply parW_op (ds := [67]) rfl rfl rfl rfl (by kernel_rfl)
  · refine .inl ⟨(wt_some' rfl rfl rfl rfl (by first | rfl | assumption | exact dT (by omega) | exact dF (by omega))), ?_⟩
    refine st_call T0 (four_p) rfl rfl rfl rfl (by first | exact callee_lit | exact callee_v | exact callee_fn | assumption) (by solve | repeat' constructor) (by first | rfl | assumption) rfl ?_
    rintro _ rfl
    exact ⟨_, Ghost.refl, rfl⟩
  apply parW_op (ds := [67]) rfl rfl rfl rfl (by kernel_rfl)
  · refine .inl ⟨(wt_some' rfl rfl rfl rfl (by first | rfl | assumption | exact dT (by omega) | exact dF (by omega))), ?_⟩
    refine st_bsl T0 rfl rfl rfl rfl rfl (by solve | repeat' constructor) rfl rfl rfl rfl (by simp only [List.map_cons, List.map_nil, cellsA]; rfl) ?_
    intro g69
    exact ⟨_, (ghost_ints (d := 69) (n := 4) [3, 2, 2, 0] (by solve | repeat' constructor) rfl), rfl⟩
  apply parW_op (ds := [67]) rfl rfl rfl rfl (by kernel_rfl)
  · refine .inl ⟨(wt_some' rfl rfl rfl rfl (by first | rfl | assumption | exact dT (by omega) | exact dF (by omega))), ?_⟩
    refine st_call T0 (one_p) rfl rfl rfl rfl (by first | exact callee_lit | exact callee_v | exact callee_fn | assumption) (by solve | repeat' constructor) (by first | rfl | assumption) rfl ?_
    rintro _ rfl
    exact ⟨_, Ghost.refl, rfl⟩
  apply parW_op (ds := [67]) rfl rfl rfl rfl (by kernel_rfl)
  · refine .inl ⟨(wt_some' rfl rfl rfl rfl (by first | rfl | assumption | exact dT (by omega) | exact dF (by omega))), ?_⟩
    refine st_call T0 (one_p) rfl rfl rfl rfl (by first | exact callee_lit | exact callee_v | exact callee_fn | assumption) (by solve | repeat' constructor) (by first | rfl | assumption) rfl ?_
    rintro _ rfl
    exact ⟨_, Ghost.refl, rfl⟩
  apply parW_op (ds := [70, 71, 67]) rfl rfl rfl rfl (by kernel_rfl)
  · refine .inl ⟨(wt_some' rfl rfl rfl rfl (by first | rfl | assumption | exact dT (by omega) | exact dF (by omega))), ?_⟩
    refine st_bsl T0 rfl rfl rfl rfl rfl (by solve | repeat' constructor) rfl rfl rfl rfl (by simp only [List.map_cons, List.map_nil, cellsA]; rfl) ?_
    intro g72
    exact ⟨_, (ghost_sales (d := 72) (n := 2) [oneS, oneS] (by solve | repeat' constructor) rfl), rfl⟩
  apply parW_op (ds := [68, 69, 72, 67]) rfl rfl rfl rfl (by kernel_rfl)
  · refine .inl ⟨(wt_some' rfl rfl rfl rfl (by first | rfl | assumption | exact dT (by omega) | exact dF (by omega))), ?_⟩
    refine st_call T0 (hP2) rfl rfl rfl rfl (by first | exact callee_lit | exact callee_v | exact callee_fn | assumption) (by solve | repeat' constructor) (by first | rfl | assumption) rfl ?_
    rintro _ rfl
    exact ⟨_, Ghost.refl, rfl⟩
  apply parW_op (ds := [67, 73]) rfl rfl rfl rfl (by kernel_rfl)
  · first | exact .inl ⟨(wt_none rfl), stepQ_pv (pv_pick_t rfl rfl (by first | rfl | assumption | exact dT (by omega) | exact dF (by omega)) rfl) rfl rfl⟩ | exact .inl ⟨(wt_none rfl), stepQ_pv (pv_pick_f rfl rfl (by first | rfl | assumption | exact dT (by omega) | exact dF (by omega)) rfl) rfl rfl⟩
  apply parW_op (ds := [74]) rfl rfl rfl rfl (by kernel_rfl)
  · exact .inl ⟨(wt_none rfl), stepQ_pv (pv_move rfl rfl) rfl rfl⟩
  apply parW_op (ds := [75]) rfl rfl rfl rfl (by kernel_rfl)
  · refine .inl ⟨(wt_some' rfl rfl rfl rfl (by first | rfl | assumption | exact dT (by omega) | exact dF (by omega))), ?_⟩
    refine st_call T0 (four_p) rfl rfl rfl rfl (by first | exact callee_lit | exact callee_v | exact callee_fn | assumption) (by solve | repeat' constructor) (by first | rfl | assumption) rfl ?_
    rintro _ rfl
    exact ⟨_, Ghost.refl, rfl⟩
  apply parW_op (ds := [75]) rfl rfl rfl rfl (by kernel_rfl)
  · refine .inl ⟨(wt_some' rfl rfl rfl rfl (by first | rfl | assumption | exact dT (by omega) | exact dF (by omega))), ?_⟩
    refine st_bsl T0 rfl rfl rfl rfl rfl (by solve | repeat' constructor) rfl rfl rfl rfl (by simp only [List.map_cons, List.map_nil, cellsA]; rfl) ?_
    intro g77
    exact ⟨_, (ghost_ints (d := 77) (n := 4) [1, 2, 3, 0] (by solve | repeat' constructor) rfl), rfl⟩
  apply parW_op (ds := [75]) rfl rfl rfl rfl (by kernel_rfl)
  · refine .inl ⟨(wt_some' rfl rfl rfl rfl (by first | rfl | assumption | exact dT (by omega) | exact dF (by omega))), ?_⟩
    refine st_call T0 (one_p) rfl rfl rfl rfl (by first | exact callee_lit | exact callee_v | exact callee_fn | assumption) (by solve | repeat' constructor) (by first | rfl | assumption) rfl ?_
    rintro _ rfl
    exact ⟨_, Ghost.refl, rfl⟩
  apply parW_op (ds := [78, 75]) rfl rfl rfl rfl (by kernel_rfl)
  · refine .inl ⟨(wt_some' rfl rfl rfl rfl (by first | rfl | assumption | exact dT (by omega) | exact dF (by omega))), ?_⟩
    refine st_bsl T0 rfl rfl rfl rfl rfl (by solve | repeat' constructor) rfl rfl rfl rfl (by simp only [List.map_cons, List.map_nil, cellsA]; rfl) ?_
    intro g79
    exact ⟨_, (ghost_sales (d := 79) (n := 1) [oneS] (by solve | repeat' constructor) rfl), rfl⟩
  apply parW_op (ds := [76, 77, 79, 75]) rfl rfl rfl rfl (by kernel_rfl)
  · refine .inl ⟨(wt_some' rfl rfl rfl rfl (by first | rfl | assumption | exact dT (by omega) | exact dF (by omega))), ?_⟩
    refine st_call T0 (hP3) rfl rfl rfl rfl (by first | exact callee_lit | exact callee_v | exact callee_fn | assumption) (by solve | repeat' constructor) (by first | rfl | assumption) rfl ?_
    rintro _ rfl
    exact ⟨_, Ghost.refl, rfl⟩
  apply parW_op (ds := [75, 80]) rfl rfl rfl rfl (by kernel_rfl)
  · first | exact .inl ⟨(wt_none rfl), stepQ_pv (pv_pick_t rfl rfl (by first | rfl | assumption | exact dT (by omega) | exact dF (by omega)) rfl) rfl rfl⟩ | exact .inl ⟨(wt_none rfl), stepQ_pv (pv_pick_f rfl rfl (by first | rfl | assumption | exact dT (by omega) | exact dF (by omega)) rfl) rfl rfl⟩
  apply parW_op (ds := [81]) rfl rfl rfl rfl (by kernel_rfl)
  · exact .inl ⟨(wt_none rfl), stepQ_pv (pv_move rfl rfl) rfl rfl⟩
  apply parW_op (ds := [82]) rfl rfl rfl rfl (by kernel_rfl)
  · refine .inl ⟨(wt_some' rfl rfl rfl rfl (by first | rfl | assumption | exact dT (by omega) | exact dF (by omega))), ?_⟩
    refine st_call T0 (four_p) rfl rfl rfl rfl (by first | exact callee_lit | exact callee_v | exact callee_fn | assumption) (by solve | repeat' constructor) (by first | rfl | assumption) rfl ?_
    rintro _ rfl
    exact ⟨_, Ghost.refl, rfl⟩
  apply parW_op (ds := [82]) rfl rfl rfl rfl (by kernel_rfl)
  · refine .inl ⟨(wt_some' rfl rfl rfl rfl (by first | rfl | assumption | exact dT (by omega) | exact dF (by omega))), ?_⟩
    refine st_bsl T0 rfl rfl rfl rfl rfl (by solve | repeat' constructor) rfl rfl rfl rfl (by simp only [List.map_cons, List.map_nil, cellsA]; rfl) ?_
    intro g84
    exact ⟨_, (ghost_ints (d := 84) (n := 4) [0, 2, 3, 0] (by solve | repeat' constructor) rfl), rfl⟩
  apply parW_op (ds := [83, 84, 82]) rfl rfl rfl rfl (by kernel_rfl)
  · refine .inl ⟨(wt_some' rfl rfl rfl rfl (by first | rfl | assumption | exact dT (by omega) | exact dF (by omega))), ?_⟩
    refine st_call T0 (hP4) rfl rfl rfl rfl (by first | exact callee_lit | exact callee_v | exact callee_fn | assumption) (by solve | repeat' constructor) (by first | rfl | assumption) rfl ?_
    rintro _ rfl
    exact ⟨_, Ghost.refl, rfl⟩
  apply parW_op (ds := [82, 85]) rfl rfl rfl rfl (by kernel_rfl)
  · first | exact .inl ⟨(wt_none rfl), stepQ_pv (pv_pick_t rfl rfl (by first | rfl | assumption | exact dT (by omega) | exact dF (by omega)) rfl) rfl rfl⟩ | exact .inl ⟨(wt_none rfl), stepQ_pv (pv_pick_f rfl rfl (by first | rfl | assumption | exact dT (by omega) | exact dF (by omega)) rfl) rfl rfl⟩
  refine parW_nil ?_
  exact cut_n ⟨rfl, rfl⟩ (by first | ((repeat' (first | exact True.intro | refine ⟨rfl, ?_⟩)); all_goals fail) | fail) (by solve | repeat' constructor)
theorem qq_8 {ops : Array Oper} (h : regF Try.f8 8 = some ops) :
    AWP Try.prog Try.f8.ntmps none (.region 8 ops true) (cutQ (fun s h => s = [(2, intA 2), (4, intA 11), (6, intA 3)] ∧ h = []))
      [(2, intA 2), (4, intA 11)] [] := by
  cases h
  have hE := Explain_p true true fourP nil7 (by decide) (by decide)
  rw [nm_expl3] at hE
  refine awp_par T0 (l := (0 :: 1 :: 2 :: 3 :: 4 :: 5 :: 6 :: [])) rfl (by kernel_rfl) (by kernel_rfl) ?_
  apply parW_op (ds := []) rfl rfl rfl rfl (by kernel_rfl)
  · refine .inl ⟨(wt_none rfl), ?_⟩
    refine st_call T0 (four_p) rfl rfl rfl rfl (by first | exact callee_lit | exact callee_v | exact callee_fn | assumption) (by solve | repeat' constructor) (by first | rfl | assumption) rfl ?_
    rintro _ rfl
    exact ⟨_, Ghost.refl, rfl⟩
  apply parW_op (ds := []) rfl rfl rfl rfl (by kernel_rfl)
  · refine .inl ⟨(wt_none rfl), ?_⟩
    refine aop_makeG (n := 7) T0 (row := [intA 0, intA 0, intA 0, intA 0]) rfl rfl rfl rfl rfl rfl rfl rfl (by omega) rfl rfl rfl ?_
    intro g103
    exact ⟨_, (ghost_sales (d := 103) (n := 7) nil7 (by solve | repeat' constructor) rfl), rfl⟩
  apply parW_op (ds := [102, 103]) rfl rfl rfl rfl (by kernel_rfl)
  · refine .inl ⟨(wt_none rfl), ?_⟩
    refine st_call T0 (hE) rfl rfl rfl rfl (by first | exact callee_lit | exact callee_v | exact callee_fn | assumption) (by solve | repeat' constructor) (by first | rfl | assumption) rfl ?_
    rintro _ rfl
    exact ⟨_, Ghost.refl, rfl⟩
  apply parW_op (ds := [104]) rfl rfl rfl rfl (by kernel_rfl)
  · exact .inl ⟨(wt_none rfl), stepQ_pv (pv_move rfl rfl) rfl rfl⟩
  apply parW_op (ds := [101]) rfl rfl rfl rfl (by kernel_rfl)
  · exact .inl ⟨(wt_none rfl), stepQ_pv (pv_extract rfl rfl rfl) rfl rfl⟩
  apply parW_op (ds := [101]) rfl rfl rfl rfl (by kernel_rfl)
  · exact .inl ⟨(wt_none rfl), stepQ_pv (pv_extract rfl rfl rfl) rfl rfl⟩
  apply parW_op (ds := [106]) rfl rfl rfl rfl (by kernel_rfl)
  · exact .inl ⟨(wt_none rfl), stepQ_pv (pv_assign rfl rfl) rfl rfl⟩
  refine parW_nil ?_
  exact cut_n ⟨rfl, rfl⟩ (by first | ((repeat' (first | exact True.intro | refine ⟨rfl, ?_⟩)); all_goals fail) | fail) (by solve | repeat' constructor)
theorem qq_14 {g14 g : Nat} {u2 u4 u6 u9 u11 u12 u13 u15 : AV} {x y : Ent} {rest : List Ent} {rows : List (List AV)} (hr : rows = fourP.ords.map ordRow) {ops : Array Oper} (h : regF Try.f8 14 = some ops) :
    AWP Try.prog Try.f8.ntmps none (.region 14 ops true) (cutQ (fun s h => s = [(2, u2), (4, u4), (6, u6), (9, u9), (11, u11), (12, u12), (13, u13), (14, .v (ptrV g14)), (15, u15)] ∧ h = .cl g14 34 [.v (.slice (some ⟨g, 0, none⟩) 4 4)] :: x :: y :: .rw (.slice (some ⟨g, 0, none⟩) 4 4) 78 5 (xMin.ords.map ordRow) :: rest))
      [(2, u2), (4, u4), (6, u6), (9, u9), (11, u11), (12, u12), (13, u13), (14, .v (ptrV g14)), (15, u15)] (.cl g14 34 [.v (.slice (some ⟨g, 0, none⟩) 4 4)] :: x :: y :: .rw (.slice (some ⟨g, 0, none⟩) 4 4) 78 5 rows :: rest) := by
  cases h
  have hs : rows.set 0 (spA (rows.getD 0 []) 3 [intA 3, intA 2]) = xMin.ords.map ordRow := by subst hr; rfl
  have hl : rows.length = 4 := by subst hr; rfl
  refine awp_tree T0 [(0, 0), (1, 1), (2, 2), (3, 0), (4, 0), (5, 3)] (.op 0 0 (.op 1 1 (.op 2 2 (.op 3 0 (.op 4 0 (.op 5 3 .stop)))))) [.cl g14 _ _] rfl (by kernel_rfl) (by solve | repeat' constructor) ?_
  refine awt_po rfl (wt_none rfl) (pv_fa T0 rfl rfl rfl (by simp; rfl)) rfl rfl ?_
  refine awt_lo rfl (wt_none rfl) (lv_cl1 T0 rfl rfl rfl (by solve | repeat' constructor) (by first | rfl | assumption)) rfl rfl rfl ?_
  refine awt_h (hm := []) rfl (wt_none rfl) (by solve | repeat' constructor) rfl (st_call T0 (between_p 3 2) rfl rfl rfl rfl (by first | exact callee_lit | exact callee_v | exact callee_fn | assumption) (by solve | repeat' constructor) (by first | rfl | assumption) rfl ?_)
  rintro _ rfl
  refine awt_po rfl (wt_none rfl) (pv_ix_own (kk := 0) T0 rfl rfl rfl rfl (by omega) rfl) rfl rfl ?_
  refine awt_po rfl (wt_none rfl) (pv_fa_rp T0 rfl rfl rfl (by simp; rfl)) rfl rfl ?_
  refine awt_s (md := fun _ => True) rfl (wt_none rfl) (aop_store_rp T0 rfl rfl rfl rfl rfl rfl rfl rfl (by solve | repeat' constructor) (by first | omega | (simp; omega)) (by omega) rfl trivial ?_)
  refine awe_end ?_
  simp only [cellsA]
  rw [hs]
  exact cut_n ⟨rfl, rfl⟩ (by first | ((repeat' (first | exact True.intro | refine ⟨rfl, ?_⟩)); all_goals fail) | fail) (SubH.refl _)
theorem PostNames_p : PCall Try.prog 8 [] (fun r => r = boolA true) := by
  refine acall_of_awp T0 Try.func8 rfl rfl rfl ?_
  have hE1 : PCall Try.prog 36 [postA true fourP, .v (.slice none 0 0)] (fun r => r = .tup [.t (intsT true [1, 2, 2, 0]), intA 0]) := by
    have := Explain_p true true fourP [] (by decide) (by decide)
    rw [nm_expl] at this
    exact pcall_weak this (.cons (.refl _) (.cons .nil .nil))
  repeat (first | refine awp_seq ?_ | refine awp_region_lit rfl ?_ | ((first | (show AWL _ _ _ (⟨_, .assign _, _, _, _, _⟩ :: _) _ _ _; refine awl_pw ?wtq (pv_assign rfl rfl) rfl rfl ?_)); case wtq => first | exact wt_none rfl | exact wt_some' rfl rfl rfl rfl (by first | rfl | assumption | exact dT (by omega) | exact dF (by omega))) | refine awl_nil ?_)
  refine awl_hw (by first | exact wt_none rfl | exact wt_some' rfl rfl rfl rfl (by first | rfl | assumption | exact dT (by omega) | exact dF (by omega))) (st_call T0 (four_p) rfl rfl rfl rfl (by first | exact callee_lit | exact callee_v | exact callee_fn | assumption) (by solve | repeat' constructor) (by first | rfl | assumption) rfl ?_)
  rintro _ rfl
  skip
  refine awl_hw (by first | exact wt_none rfl | exact wt_some' rfl rfl rfl rfl (by first | rfl | assumption | exact dT (by omega) | exact dF (by omega))) (st_bsl T0 rfl rfl rfl rfl rfl (by solve | repeat' constructor) rfl rfl rfl rfl (by simp only [List.map_cons, List.map_nil, cellsA]; rfl) ?_)
  intro g18
  refine awl_ghost (ghost_ints (d := 18) (n := 4) [3, 2, 2, 0] (by solve | repeat' constructor) rfl) ?_
  skip
  refine awl_hw (by first | exact wt_none rfl | exact wt_some' rfl rfl rfl rfl (by first | rfl | assumption | exact dT (by omega) | exact dF (by omega))) (st_call T0 (Play_p true true fourP [3, 2, 2, 0] (by decide) (by decide)) rfl rfl rfl rfl (by first | exact callee_lit | exact callee_v | exact callee_fn | assumption) (by solve | repeat' constructor) (by first | rfl | assumption) rfl ?_)
  (rintro r rfl; rw [nm_play])
  repeat (first | refine awp_seq ?_ | refine awp_region_lit rfl ?_ | ((first | (show AWL _ _ _ (⟨_, .move _, _, _, _, _⟩ :: _) _ _ _; refine awl_pw ?wtq (pv_move rfl rfl) rfl rfl ?_) | (show AWL _ _ _ (⟨_, .assign _, _, _, _, _⟩ :: _) _ _ _; refine awl_pw ?wtq (pv_assign rfl rfl) rfl rfl ?_) | (show AWL _ _ _ (⟨_, .extract _ _, _, _, _, _⟩ :: _) _ _ _; refine awl_pw ?wtq (pv_extract rfl rfl rfl) rfl rfl ?_)); case wtq => first | exact wt_none rfl | exact wt_some' rfl rfl rfl rfl (by first | rfl | assumption | exact dT (by omega) | exact dF (by omega))) | refine awl_nil ?_)
  refine awl_hw (by first | exact wt_none rfl | exact wt_some' rfl rfl rfl rfl (by first | rfl | assumption | exact dT (by omega) | exact dF (by omega))) (st_call T0 (four_p) rfl rfl rfl rfl (by first | exact callee_lit | exact callee_v | exact callee_fn | assumption) (by solve | repeat' constructor) (by first | rfl | assumption) rfl ?_)
  rintro _ rfl
  skip
  refine awl_hw (by first | exact wt_none rfl | exact wt_some' rfl rfl rfl rfl (by first | rfl | assumption | exact dT (by omega) | exact dF (by omega))) (st_call T0 (one_p) rfl rfl rfl rfl (by first | exact callee_lit | exact callee_v | exact callee_fn | assumption) (by solve | repeat' constructor) (by first | rfl | assumption) rfl ?_)
  rintro _ rfl
  skip
  refine awl_hw (by first | exact wt_none rfl | exact wt_some' rfl rfl rfl rfl (by first | rfl | assumption | exact dT (by omega) | exact dF (by omega))) (st_bsl T0 rfl rfl rfl rfl rfl (by solve | repeat' constructor) rfl rfl rfl rfl (by simp only [List.map_cons, List.map_nil, cellsA]; rfl) ?_)
  intro g25
  refine awl_ghost (ghost_sales (d := 25) (n := 1) [oneS] (by solve | repeat' constructor) rfl) ?_
  skip
  refine awl_hw (by first | exact wt_none rfl | exact wt_some' rfl rfl rfl rfl (by first | rfl | assumption | exact dT (by omega) | exact dF (by omega))) (st_call T0 (Leave_p true true fourP [oneS] (by decide) (by decide)) rfl rfl rfl rfl (by first | exact callee_lit | exact callee_v | exact callee_fn | assumption) (by solve | repeat' constructor) (by first | rfl | assumption) rfl ?_)
  (rintro r rfl; rw [nm_leave])
  repeat (first | refine awp_seq ?_ | refine awp_region_lit rfl ?_ | ((first | (show AWL _ _ _ (⟨_, .move _, _, _, _, _⟩ :: _) _ _ _; refine awl_pw ?wtq (pv_move rfl rfl) rfl rfl ?_) | (show AWL _ _ _ (⟨_, .assign _, _, _, _, _⟩ :: _) _ _ _; refine awl_pw ?wtq (pv_assign rfl rfl) rfl rfl ?_) | (show AWL _ _ _ (⟨_, .extract _ _, _, _, _, _⟩ :: _) _ _ _; refine awl_pw ?wtq (pv_extract rfl rfl rfl) rfl rfl ?_)); case wtq => first | exact wt_none rfl | exact wt_some' rfl rfl rfl rfl (by first | rfl | assumption | exact dT (by omega) | exact dF (by omega))) | refine awl_nil ?_)
  refine awl_hw (by first | exact wt_none rfl | exact wt_some' rfl rfl rfl rfl (by first | rfl | assumption | exact dT (by omega) | exact dF (by omega))) (st_call T0 (four_p) rfl rfl rfl rfl (by first | exact callee_lit | exact callee_v | exact callee_fn | assumption) (by solve | repeat' constructor) (by first | rfl | assumption) rfl ?_)
  rintro _ rfl
  skip
  refine awl_hw (by first | exact wt_none rfl | exact wt_some' rfl rfl rfl rfl (by first | rfl | assumption | exact dT (by omega) | exact dF (by omega))) (st_call T0 (hE1) rfl rfl rfl rfl (by first | exact callee_lit | exact callee_v | exact callee_fn | assumption) (by solve | repeat' constructor) (by first | rfl | assumption) rfl ?_)
  rintro _ rfl
  repeat (first | refine awp_seq ?_ | ((first | (show AWL _ _ _ (⟨_, .move _, _, _, _, _⟩ :: _) _ _ _; refine awl_pw ?wtq (pv_move rfl rfl) rfl rfl ?_) | (show AWL _ _ _ (⟨_, .assign _, _, _, _, _⟩ :: _) _ _ _; refine awl_pw ?wtq (pv_assign rfl rfl) rfl rfl ?_) | (show AWL _ _ _ (⟨_, .extract _ _, _, _, _, _⟩ :: _) _ _ _; refine awl_pw ?wtq (pv_extract rfl rfl rfl) rfl rfl ?_)); case wtq => first | exact wt_none rfl | exact wt_some' rfl rfl rfl rfl (by first | rfl | assumption | exact dT (by omega) | exact dF (by omega))) | refine awl_nil ?_)
  refine awp_cut _ (awp_weak (by first | ((repeat' (first | exact True.intro | refine ⟨rfl, ?_⟩)); all_goals fail) | fail) (by solve | repeat' constructor) (qq_4 rfl)) ?_
  rintro s h ⟨rfl, rfl⟩
  repeat (first | refine awp_seq ?_ | refine awp_region_lit rfl ?_ | refine awp_skip ?_ | refine awp_cond_f rfl (by first | rfl | assumption | exact dF (by omega)) ?_)
  refine awl_hw (by first | exact wt_none rfl | exact wt_some' rfl rfl rfl rfl (by first | rfl | assumption | exact dT (by omega) | exact dF (by omega))) (st_call T0 (four_p) rfl rfl rfl rfl (by first | exact callee_lit | exact callee_v | exact callee_fn | assumption) (by solve | repeat' constructor) (by first | rfl | assumption) rfl ?_)
  rintro _ rfl
  skip
  refine awl_hw (by first | exact wt_none rfl | exact wt_some' rfl rfl rfl rfl (by first | rfl | assumption | exact dT (by omega) | exact dF (by omega))) (st_bsl T0 rfl rfl rfl rfl rfl (by solve | repeat' constructor) rfl rfl rfl rfl (by simp only [List.map_cons, List.map_nil, cellsA]; rfl) ?_)
  intro g89
  refine awl_ghost (ghost_ints (d := 89) (n := 4) [1, 2, 5, 0] (by solve | repeat' constructor) rfl) ?_
  skip
  refine awl_hw (by first | exact wt_none rfl | exact wt_some' rfl rfl rfl rfl (by first | rfl | assumption | exact dT (by omega) | exact dF (by omega))) (st_call T0 (Play_p true true fourP [1, 2, 5, 0] (by decide) (by decide)) rfl rfl rfl rfl (by first | exact callee_lit | exact callee_v | exact callee_fn | assumption) (by solve | repeat' constructor) (by first | rfl | assumption) rfl ?_)
  (rintro r rfl; rw [nm_play2])
  repeat (first | refine awp_seq ?_ | refine awp_region_lit rfl ?_ | ((first | (show AWL _ _ _ (⟨_, .move _, _, _, _, _⟩ :: _) _ _ _; refine awl_pw ?wtq (pv_move rfl rfl) rfl rfl ?_) | (show AWL _ _ _ (⟨_, .assign _, _, _, _, _⟩ :: _) _ _ _; refine awl_pw ?wtq (pv_assign rfl rfl) rfl rfl ?_) | (show AWL _ _ _ (⟨_, .extract _ _, _, _, _, _⟩ :: _) _ _ _; refine awl_pw ?wtq (pv_extract rfl rfl rfl) rfl rfl ?_)); case wtq => first | exact wt_none rfl | exact wt_some' rfl rfl rfl rfl (by first | rfl | assumption | exact dT (by omega) | exact dF (by omega))) | refine awl_nil ?_)
  refine awl_hw (by first | exact wt_none rfl | exact wt_some' rfl rfl rfl rfl (by first | rfl | assumption | exact dT (by omega) | exact dF (by omega))) (st_call T0 (four_p) rfl rfl rfl rfl (by first | exact callee_lit | exact callee_v | exact callee_fn | assumption) (by solve | repeat' constructor) (by first | rfl | assumption) rfl ?_)
  rintro _ rfl
  skip
  refine awl_hw (by first | exact wt_none rfl | exact wt_some' rfl rfl rfl rfl (by first | rfl | assumption | exact dT (by omega) | exact dF (by omega))) (st_call T0 (one_p) rfl rfl rfl rfl (by first | exact callee_lit | exact callee_v | exact callee_fn | assumption) (by solve | repeat' constructor) (by first | rfl | assumption) rfl ?_)
  rintro _ rfl
  skip
  refine awl_hw (by first | exact wt_none rfl | exact wt_some' rfl rfl rfl rfl (by first | rfl | assumption | exact dT (by omega) | exact dF (by omega))) (st_call T0 (other_p) rfl rfl rfl rfl (by first | exact callee_lit | exact callee_v | exact callee_fn | assumption) (by solve | repeat' constructor) (by first | rfl | assumption) rfl ?_)
  rintro _ rfl
  skip
  refine awl_hw (by first | exact wt_none rfl | exact wt_some' rfl rfl rfl rfl (by first | rfl | assumption | exact dT (by omega) | exact dF (by omega))) (st_bsl T0 rfl rfl rfl rfl rfl (by solve | repeat' constructor) rfl rfl rfl rfl (by simp only [List.map_cons, List.map_nil, cellsA]; rfl) ?_)
  intro g97
  refine awl_ghost (ghost_sales (d := 97) (n := 2) [oneS, otherS] (by solve | repeat' constructor) rfl) ?_
  skip
  refine awl_hw (by first | exact wt_none rfl | exact wt_some' rfl rfl rfl rfl (by first | rfl | assumption | exact dT (by omega) | exact dF (by omega))) (st_call T0 (Explain_p true true fourP [oneS, otherS] (by decide) (by decide)) rfl rfl rfl rfl (by first | exact callee_lit | exact callee_v | exact callee_fn | assumption) (by solve | repeat' constructor) (by first | rfl | assumption) rfl ?_)
  (rintro r rfl; rw [nm_expl2])
  repeat (first | refine awp_seq ?_ | ((first | (show AWL _ _ _ (⟨_, .move _, _, _, _, _⟩ :: _) _ _ _; refine awl_pw ?wtq (pv_move rfl rfl) rfl rfl ?_) | (show AWL _ _ _ (⟨_, .assign _, _, _, _, _⟩ :: _) _ _ _; refine awl_pw ?wtq (pv_assign rfl rfl) rfl rfl ?_) | (show AWL _ _ _ (⟨_, .extract _ _, _, _, _, _⟩ :: _) _ _ _; refine awl_pw ?wtq (pv_extract rfl rfl rfl) rfl rfl ?_)); case wtq => first | exact wt_none rfl | exact wt_some' rfl rfl rfl rfl (by first | rfl | assumption | exact dT (by omega) | exact dF (by omega))) | refine awl_nil ?_)
  refine awp_cut _ (awp_weak (by first | ((repeat' (first | exact True.intro | refine ⟨rfl, ?_⟩)); all_goals fail) | fail) (by solve | repeat' constructor) (qq_8 rfl)) ?_
  rintro s h ⟨rfl, rfl⟩
  have hO : PCall Try.prog 34 [.ag [.t (.sl true 5 2 (fun k => ordL (fourP.ords.getD k default)))]] (fun r => r = .tup [intA 0, intA 0, intA 7]) := by
    have := Open_p true twoP (by decide)
    rw [nm_open] at this
    exact pcall_weak this (.cons (.ag (.cons (.t two_le) .nil)) .nil)
  have hS : PCall Try.prog 30 [.ag [.v (.slice none 0 0)]] (fun r => r = .tup [.t (intsT true []), intA 1]) := by
    have := Surely_p true ⟨[]⟩ (by decide)
    rw [nm_sure] at this
    exact pcall_weak this (.cons (.ag (.cons .nil .nil)) .nil)
  repeat (first | refine awp_seq ?_ | refine awp_region_lit rfl ?_)
  refine awl_hw (by first | exact wt_none rfl | exact wt_some' rfl rfl rfl rfl (by first | rfl | assumption | exact dT (by omega) | exact dF (by omega))) (st_call T0 (four_p) rfl rfl rfl rfl (by first | exact callee_lit | exact callee_v | exact callee_fn | assumption) (by solve | repeat' constructor) (by first | rfl | assumption) rfl ?_)
  rintro _ rfl
  skip
  refine awl_pw (wt_none rfl) (pv_field34 rfl rfl) rfl rfl ?_
  refine awl_pw (wt_none rfl) (pv_slice_hi T0 rfl rfl rfl rfl (by decide) rfl) rfl rfl ?_
  repeat (first | ((first | (show AWL _ _ _ (⟨_, .build _ _, _, _, _, _⟩ :: _) _ _ _; refine awl_pw ?wtq (pv_build T0 rfl rfl rfl (by simp only [Value.cells, List.toList_toArray, List.map_cons, List.map_nil]; rfl) (by first | ((repeat' (first | exact BParts.nil | apply BParts.cons | rfl)); all_goals fail) | fail) (by first | ((repeat' (first | exact FillA.nil | exact Sp.done | apply FillA.cons | apply Sp.put | apply Sp.skip | (simp only [cellsA]; rfl) | rfl)); all_goals fail) | fail)) rfl rfl ?_)); case wtq => first | exact wt_none rfl | exact wt_some' rfl rfl rfl rfl (by first | rfl | assumption | exact dT (by omega) | exact dF (by omega))))
  refine awl_hw (by first | exact wt_none rfl | exact wt_some' rfl rfl rfl rfl (by first | rfl | assumption | exact dT (by omega) | exact dF (by omega))) (st_call T0 (hO) rfl rfl rfl rfl (by first | exact callee_lit | exact callee_v | exact callee_fn | assumption) (by solve | repeat' constructor) (by first | rfl | assumption) rfl ?_)
  rintro _ rfl
  repeat (first | refine awp_seq ?_ | refine awp_region_lit rfl ?_ | ((first | (show AWL _ _ _ (⟨_, .move _, _, _, _, _⟩ :: _) _ _ _; refine awl_pw ?wtq (pv_move rfl rfl) rfl rfl ?_) | (show AWL _ _ _ (⟨_, .assign _, _, _, _, _⟩ :: _) _ _ _; refine awl_pw ?wtq (pv_assign rfl rfl) rfl rfl ?_) | (show AWL _ _ _ (⟨_, .build _ _, _, _, _, _⟩ :: _) _ _ _; refine awl_pw ?wtq (pv_build T0 rfl rfl rfl (by simp only [Value.cells, List.toList_toArray, List.map_cons, List.map_nil]; rfl) (by first | ((repeat' (first | exact BParts.nil | apply BParts.cons | rfl)); all_goals fail) | fail) (by first | ((repeat' (first | exact FillA.nil | exact Sp.done | apply FillA.cons | apply Sp.put | apply Sp.skip | (simp only [cellsA]; rfl) | rfl)); all_goals fail) | fail)) rfl rfl ?_) | (show AWL _ _ _ (⟨_, .extract _ _, _, _, _, _⟩ :: _) _ _ _; refine awl_pw ?wtq (pv_extract rfl rfl rfl) rfl rfl ?_)); case wtq => first | exact wt_none rfl | exact wt_some' rfl rfl rfl rfl (by first | rfl | assumption | exact dT (by omega) | exact dF (by omega))) | refine awl_nil ?_)
  refine awl_hw (by first | exact wt_none rfl | exact wt_some' rfl rfl rfl rfl (by first | rfl | assumption | exact dT (by omega) | exact dF (by omega))) (st_call T0 (hS) rfl rfl rfl rfl (by first | exact callee_lit | exact callee_v | exact callee_fn | assumption) (by solve | repeat' constructor) (by first | rfl | assumption) rfl ?_)
  rintro _ rfl
  repeat (first | refine awp_seq ?_ | refine awp_region_lit rfl ?_ | ((first | (show AWL _ _ _ (⟨_, .move _, _, _, _, _⟩ :: _) _ _ _; refine awl_pw ?wtq (pv_move rfl rfl) rfl rfl ?_) | (show AWL _ _ _ (⟨_, .assign _, _, _, _, _⟩ :: _) _ _ _; refine awl_pw ?wtq (pv_assign rfl rfl) rfl rfl ?_) | (show AWL _ _ _ (⟨_, .extract _ _, _, _, _, _⟩ :: _) _ _ _; refine awl_pw ?wtq (pv_extract rfl rfl rfl) rfl rfl ?_)); case wtq => first | exact wt_none rfl | exact wt_some' rfl rfl rfl rfl (by first | rfl | assumption | exact dT (by omega) | exact dF (by omega))) | refine awl_nil ?_)
  refine awl_hw (by first | exact wt_none rfl | exact wt_some' rfl rfl rfl rfl (by first | rfl | assumption | exact dT (by omega) | exact dF (by omega))) (st_acall T0 (four_o) rfl rfl rfl rfl (by first | exact callee_lit | exact callee_v | exact callee_fn | assumption) (by solve | repeat' constructor) (by first | rfl | assumption) rfl (by first | ((repeat' (first | exact SubH.refl _ | apply SubH.cons | exact Pick.here | apply Pick.there)); all_goals fail) | fail) (fun _ _ => trivial) ?_)
  rintro _ _ ⟨gA, rfl, rfl⟩
  simp only [List.cons_append, List.nil_append]
  skip
  refine awl_hw (by first | exact wt_none rfl | exact wt_some' rfl rfl rfl rfl (by first | rfl | assumption | exact dT (by omega) | exact dF (by omega))) (st_acall T0 (four_o) rfl rfl rfl rfl (by first | exact callee_lit | exact callee_v | exact callee_fn | assumption) (by solve | repeat' constructor) (by first | rfl | assumption) rfl (by first | ((repeat' (first | exact SubH.refl _ | apply SubH.cons | exact Pick.here | apply Pick.there)); all_goals fail) | fail) (fun _ _ => trivial) ?_)
  rintro _ _ ⟨gB, rfl, rfl⟩
  simp only [List.cons_append, List.nil_append]
  skip
  refine awl_hw (by first | exact wt_none rfl | exact wt_some' rfl rfl rfl rfl (by first | rfl | assumption | exact dT (by omega) | exact dF (by omega))) (st_acall T0 (four_o) rfl rfl rfl rfl (by first | exact callee_lit | exact callee_v | exact callee_fn | assumption) (by solve | repeat' constructor) (by first | rfl | assumption) rfl (by first | ((repeat' (first | exact SubH.refl _ | apply SubH.cons | exact Pick.here | apply Pick.there)); all_goals fail) | fail) (fun _ _ => trivial) ?_)
  rintro _ _ ⟨gC, rfl, rfl⟩
  simp only [List.cons_append, List.nil_append]
  skip
  refine awl_hw (by first | exact wt_none rfl | exact wt_some' rfl rfl rfl rfl (by first | rfl | assumption | exact dT (by omega) | exact dF (by omega))) (st_call T0 (four_p) rfl rfl rfl rfl (by first | exact callee_lit | exact callee_v | exact callee_fn | assumption) (by solve | repeat' constructor) (by first | rfl | assumption) rfl ?_)
  rintro _ rfl
  skip
  obtain ⟨rows, hr⟩ : ∃ rows, fourP.ords.map ordRow = rows := ⟨_, rfl⟩
  rw [hr]
  have hrl : rows.length = 4 := by rw [← hr]; rfl
  have s1 : rows.set 0 (spA (rows.getD 0 []) 1 [intA 101]) = xLim.ords.map ordRow := by rw [← hr]; rfl
  have s2 : rows.set 0 (spA (rows.getD 0 []) 2 [intA 0]) = xNum.ords.map ordRow := by rw [← hr]; rfl
  refine awl_hw (by first | exact wt_none rfl | exact wt_some' rfl rfl rfl rfl (by first | rfl | assumption | exact dT (by omega) | exact dF (by omega))) (st_alloc T0 rfl rfl rfl rfl (by simp only [Value.cells, List.toList_toArray, List.map_cons, List.map_nil]; rfl) ?_)
  intro g12
  skip
  refine awl_hw (by first | exact wt_none rfl | exact wt_some' rfl rfl rfl rfl (by first | rfl | assumption | exact dT (by omega) | exact dF (by omega))) (st_alloc T0 rfl rfl rfl rfl (by simp only [Value.cells, List.toList_toArray, List.map_cons, List.map_nil]; rfl) ?_)
  intro g13
  skip
  refine awl_hw (by first | exact wt_none rfl | exact wt_some' rfl rfl rfl rfl (by first | rfl | assumption | exact dT (by omega) | exact dF (by omega))) (st_alloc T0 rfl rfl rfl rfl (by simp only [Value.cells, List.toList_toArray, List.map_cons, List.map_nil]; rfl) ?_)
  intro g14
  skip
  refine awl_hw (by first | exact wt_none rfl | exact wt_some' rfl rfl rfl rfl (by first | rfl | assumption | exact dT (by omega) | exact dF (by omega))) (st_alloc T0 rfl rfl rfl rfl (by simp only [Value.cells, List.toList_toArray, List.map_cons, List.map_nil]; rfl) ?_)
  intro g15
  repeat (first | refine awp_seq ?_ | refine awp_region_lit rfl ?_ | ((first | (show AWL _ _ _ (⟨_, .load _ _, _, _, _, _⟩ :: _) _ _ _; refine awl_lw ?wtq (lv_cl1 T0 rfl rfl rfl (by solve | repeat' constructor) (by first | rfl | assumption)) rfl rfl rfl ?_) | (show AWL _ _ _ (⟨_, .fieldAddr _ _ _, _, _, _, _⟩ :: _) _ _ _; refine awl_pw ?wtq (pv_fa T0 rfl rfl rfl (by simp; rfl)) rfl rfl ?_) | (show AWL _ _ _ (⟨_, .fieldAddr _ _ _, _, _, _, _⟩ :: _) _ _ _; refine awl_pw ?wtq (pv_fa_rp T0 rfl rfl rfl (by simp; rfl)) rfl rfl ?_) | (show AWL _ _ _ (⟨_, .indexAddr _ _ _, _, _, _, _⟩ :: _) _ _ _; refine awl_pw ?wtq (pv_ix_own T0 rfl rfl rfl rfl (by omega) (by first | exact (rfl : Int.toNat 0 = 0) | exact Int.toNat_natCast _ | rfl)) rfl rfl ?_)); case wtq => first | exact wt_none rfl | exact wt_some' rfl rfl rfl rfl (by first | rfl | assumption | exact dT (by omega) | exact dF (by omega))) | (show AWL _ _ _ (⟨_, .store _ _ _, _, _, _, _⟩ :: _) _ _ _; refine awl_hw (by first | exact wt_none rfl | exact wt_some' rfl rfl rfl rfl (by first | rfl | assumption | exact dT (by omega) | exact dF (by omega))) (st_store T0 rfl rfl rfl rfl rfl (by first | assumption | (simp only [cellsA]; rfl)) rfl rfl rfl (by solve | repeat' constructor) (by solve | repeat' constructor) trivial ?_)) | refine awl_nil ?_)
  refine awl_hw (by first | exact wt_none rfl | exact wt_some' rfl rfl rfl rfl (by first | rfl | assumption | exact dT (by omega) | exact dF (by omega))) (aop_store_rp T0 rfl rfl rfl rfl rfl rfl rfl rfl (by solve | repeat' constructor) (by first | omega | (simp; omega)) (by omega) rfl trivial ?_)
  simp only [cellsA, Int.toNat_zero]
  rw [s1]
  repeat (first | refine awp_seq ?_ | refine awp_region_lit rfl ?_ | ((first | (show AWL _ _ _ (⟨_, .load _ _, _, _, _, _⟩ :: _) _ _ _; refine awl_lw ?wtq (lv_cl1 T0 rfl rfl rfl (by solve | repeat' constructor) (by first | rfl | assumption)) rfl rfl rfl ?_) | (show AWL _ _ _ (⟨_, .fieldAddr _ _ _, _, _, _, _⟩ :: _) _ _ _; refine awl_pw ?wtq (pv_fa T0 rfl rfl rfl (by simp; rfl)) rfl rfl ?_) | (show AWL _ _ _ (⟨_, .fieldAddr _ _ _, _, _, _, _⟩ :: _) _ _ _; refine awl_pw ?wtq (pv_fa_rp T0 rfl rfl rfl (by simp; rfl)) rfl rfl ?_) | (show AWL _ _ _ (⟨_, .indexAddr _ _ _, _, _, _, _⟩ :: _) _ _ _; refine awl_pw ?wtq (pv_ix_own T0 rfl rfl rfl rfl (by omega) (by first | exact (rfl : Int.toNat 0 = 0) | exact Int.toNat_natCast _ | rfl)) rfl rfl ?_)); case wtq => first | exact wt_none rfl | exact wt_some' rfl rfl rfl rfl (by first | rfl | assumption | exact dT (by omega) | exact dF (by omega))) | refine awl_nil ?_)
  refine awl_hw (by first | exact wt_none rfl | exact wt_some' rfl rfl rfl rfl (by first | rfl | assumption | exact dT (by omega) | exact dF (by omega))) (aop_store_rp T0 rfl rfl rfl rfl rfl rfl rfl rfl (by solve | repeat' constructor) (by first | omega | (simp; omega)) (by omega) rfl trivial ?_)
  simp only [cellsA, Int.toNat_zero]
  rw [s2]
  repeat (first | refine awp_seq ?_ | refine awl_nil ?_)
  have hM : rows.set 0 (spA (rows.getD 0 []) 3 [intA 3, intA 2]) = xMin.ords.map ordRow := by rw [← hr]; rfl
  refine awp_cut _ (awp_weak (by first | ((repeat' (first | exact True.intro | refine ⟨rfl, ?_⟩)); all_goals fail) | fail) (by solve | repeat' constructor) (qq_14 (g14 := g14) (g := gC) (u2 := intA 2) (u4 := intA 11) (u6 := intA 3) (u9 := intA 7) (u11 := intA 1) (u12 := .v (ptrV g12)) (u13 := .v (ptrV g13)) (u15 := .v (ptrV g15)) (x := .cl g12 34 [.v (.slice (some ⟨gA, 0, none⟩) 4 4)]) (y := .cl g13 34 [.v (.slice (some ⟨gB, 0, none⟩) 4 4)]) (rest := [.cl g15 34 [.t (ordsT true fourP.ords)], .rw (.slice (some ⟨gB, 0, none⟩) 4 4) 78 5 (xNum.ords.map ordRow), .rw (.slice (some ⟨gA, 0, none⟩) 4 4) 78 5 (xLim.ords.map ordRow)]) hr.symm rfl)) ?_
  rintro s h ⟨rfl, rfl⟩
  refine awp_ghost (ghost_freeze_cell (g := g12) (j := 0) (v := .slice (some ⟨gA, 0, none⟩) 4 4) (E := 78) (sz := 5) (n := 4) (rows := xLim.ords.map ordRow) (fun q => ordL (xLim.ords.getD q default)) (by solve | repeat' constructor) (by solve | repeat' constructor) rfl rfl rfl (rows_tree xLim.ords ordRow ordL (fun _ => rfl))) ?_
  refine awp_ghost (ghost_freeze_cell (g := g13) (j := 0) (v := .slice (some ⟨gB, 0, none⟩) 4 4) (E := 78) (sz := 5) (n := 4) (rows := xNum.ords.map ordRow) (fun q => ordL (xNum.ords.getD q default)) (by solve | repeat' constructor) (by solve | repeat' constructor) rfl rfl rfl (rows_tree xNum.ords ordRow ordL (fun _ => rfl))) ?_
  refine awp_ghost (ghost_freeze_cell (g := g14) (j := 0) (v := .slice (some ⟨gC, 0, none⟩) 4 4) (E := 78) (sz := 5) (n := 4) (rows := xMin.ords.map ordRow) (fun q => ordL (xMin.ords.getD q default)) (by solve | repeat' constructor) (by solve | repeat' constructor) rfl rfl rfl (rows_tree xMin.ords ordRow ordL (fun _ => rfl))) ?_
  rw [show (Tr.sl true 5 4 fun q => ordL (xLim.ords.getD q default)) = ordsT true xLim.ords from rfl, show (Tr.sl true 5 4 fun q => ordL (xNum.ords.getD q default)) = ordsT true xNum.ords from rfl, show (Tr.sl true 5 4 fun q => ordL (xMin.ords.getD q default)) = ordsT true xMin.ords from rfl]
  repeat (first | refine awp_seq ?_ | refine awp_region_lit rfl ?_)
  refine awl_hw (wt_none rfl) (aop_makeG (n := 7) T0 (row := [boolA false, intA 0, intA 0, intA 0, intA 0]) rfl rfl rfl rfl rfl rfl rfl rfl (by omega) rfl rfl rfl ?_)
  intro g138
  repeat (first | refine awp_seq ?_ | refine awp_region_lit rfl ?_ | ((first | (show AWL _ _ _ (⟨_, .move _, _, _, _, _⟩ :: _) _ _ _; refine awl_pw ?wtq (pv_move rfl rfl) rfl rfl ?_) | (show AWL _ _ _ (⟨_, .load _ _, _, _, _, _⟩ :: _) _ _ _; refine awl_lw ?wtq (lv_cla T0 rfl rfl rfl (by solve | repeat' constructor) rfl) rfl rfl rfl ?_) | (show AWL _ _ _ (⟨_, .fieldAddr _ _ _, _, _, _, _⟩ :: _) _ _ _; refine awl_pw ?wtq (pv_fa T0 rfl rfl rfl (by simp; rfl)) rfl rfl ?_) | (show AWL _ _ _ (⟨_, .binOp .eql _ _ _ _, _, _, _, _⟩ :: _) _ _ _; refine awl_pw ?wtq (pv_eql rfl rfl rfl) rfl rfl ?_) | (show AWL _ _ _ (⟨_, .pick _ _ _, _, _, _, _⟩ :: _) _ _ _; refine awl_pw ?wtq (pv_pick_t rfl rfl (by first | rfl | assumption | exact dT (by omega) | exact dF (by omega)) rfl) rfl rfl ?_)); case wtq => first | exact wt_none rfl | exact wt_some' rfl rfl rfl rfl (by first | rfl | assumption | exact dT (by omega) | exact dF (by omega))) | (show AWL _ _ _ (⟨_, .store _ _ _, _, _, _, _⟩ :: _) _ _ _; refine awl_hw (by first | exact wt_none rfl | exact wt_some' rfl rfl rfl rfl (by first | rfl | assumption | exact dT (by omega) | exact dF (by omega))) (st_store T0 rfl rfl rfl rfl rfl (by first | assumption | (simp only [cellsA]; rfl)) rfl rfl rfl (by solve | repeat' constructor) (by solve | repeat' constructor) trivial ?_)) | refine awl_nil ?_)
  refine awl_ghost (ghost_freeze_cell (g := g15) (j := 0) (v := .slice (some ⟨g138, 0, none⟩) 7 7) (E := 78) (sz := 5) (n := 7) (rows := List.replicate 7 [boolA false, intA 0, intA 0, intA 0, intA 0]) (fun q => ordL (xMany.ords.getD q default)) (by solve | repeat' constructor) (by solve | repeat' constructor) rfl rfl rfl (rows_tree xMany.ords ordRow ordL (fun _ => rfl))) ?_
  rw [show (Tr.sl true 5 7 fun q => ordL (xMany.ords.getD q default)) = ordsT true xMany.ords from rfl]
  have c1 : PCall Try.prog 23 [postA true xLim] (fun r => r = intA 1) := by
    have := check_p true xLim (by decide)
    rw [show faultN xLim = 1 from by kernel_rfl] at this
    exact this
  have c2 : PCall Try.prog 23 [postA true xNum] (fun r => r = intA 1) := by
    have := check_p true xNum (by decide)
    rw [show faultN xNum = 1 from by kernel_rfl] at this
    exact this
  have c3 : PCall Try.prog 23 [postA true xMin] (fun r => r = intA 1) := by
    have := check_p true xMin (by decide)
    rw [show faultN xMin = 1 from by kernel_rfl] at this
    exact this
  have c4 : PCall Try.prog 23 [postA true xMany] (fun r => r = intA 3) := by
    have := check_p true xMany (by decide)
    rw [show faultN xMany = 3 from by kernel_rfl] at this
    exact this
  refine awl_hw (by first | exact wt_none rfl | exact wt_some' rfl rfl rfl rfl (by first | rfl | assumption | exact dT (by omega) | exact dF (by omega))) (st_call T0 (c1) rfl rfl rfl rfl (by first | exact callee_lit | exact callee_v | exact callee_fn | assumption) (by solve | repeat' constructor) (by first | rfl | assumption) rfl ?_)
  rintro _ rfl
  repeat (first | ((first | (show AWL _ _ _ (⟨_, .move _, _, _, _, _⟩ :: _) _ _ _; refine awl_pw ?wtq (pv_move rfl rfl) rfl rfl ?_) | (show AWL _ _ _ (⟨_, .load _ _, _, _, _, _⟩ :: _) _ _ _; refine awl_lw ?wtq (lv_cla T0 rfl rfl rfl (by solve | repeat' constructor) rfl) rfl rfl rfl ?_) | (show AWL _ _ _ (⟨_, .binOp .eql _ _ _ _, _, _, _, _⟩ :: _) _ _ _; refine awl_pw ?wtq (pv_eql rfl rfl rfl) rfl rfl ?_) | (show AWL _ _ _ (⟨_, .pick _ _ _, _, _, _, _⟩ :: _) _ _ _; refine awl_pw ?wtq (pv_pick_t rfl rfl (by first | rfl | assumption | exact dT (by omega) | exact dF (by omega)) rfl) rfl rfl ?_)); case wtq => first | exact wt_none rfl | exact wt_some' rfl rfl rfl rfl (by first | rfl | assumption | exact dT (by omega) | exact dF (by omega))))
  refine awl_hw (by first | exact wt_none rfl | exact wt_some' rfl rfl rfl rfl (by first | rfl | assumption | exact dT (by omega) | exact dF (by omega))) (st_call T0 (c2) rfl rfl rfl rfl (by first | exact callee_lit | exact callee_v | exact callee_fn | assumption) (by solve | repeat' constructor) (by first | rfl | assumption) rfl ?_)
  rintro _ rfl
  repeat (first | ((first | (show AWL _ _ _ (⟨_, .move _, _, _, _, _⟩ :: _) _ _ _; refine awl_pw ?wtq (pv_move rfl rfl) rfl rfl ?_) | (show AWL _ _ _ (⟨_, .load _ _, _, _, _, _⟩ :: _) _ _ _; refine awl_lw ?wtq (lv_cla T0 rfl rfl rfl (by solve | repeat' constructor) rfl) rfl rfl rfl ?_) | (show AWL _ _ _ (⟨_, .binOp .eql _ _ _ _, _, _, _, _⟩ :: _) _ _ _; refine awl_pw ?wtq (pv_eql rfl rfl rfl) rfl rfl ?_) | (show AWL _ _ _ (⟨_, .pick _ _ _, _, _, _, _⟩ :: _) _ _ _; refine awl_pw ?wtq (pv_pick_t rfl rfl (by first | rfl | assumption | exact dT (by omega) | exact dF (by omega)) rfl) rfl rfl ?_)); case wtq => first | exact wt_none rfl | exact wt_some' rfl rfl rfl rfl (by first | rfl | assumption | exact dT (by omega) | exact dF (by omega))))
  refine awl_hw (by first | exact wt_none rfl | exact wt_some' rfl rfl rfl rfl (by first | rfl | assumption | exact dT (by omega) | exact dF (by omega))) (st_call T0 (c3) rfl rfl rfl rfl (by first | exact callee_lit | exact callee_v | exact callee_fn | assumption) (by solve | repeat' constructor) (by first | rfl | assumption) rfl ?_)
  rintro _ rfl
  repeat (first | ((first | (show AWL _ _ _ (⟨_, .move _, _, _, _, _⟩ :: _) _ _ _; refine awl_pw ?wtq (pv_move rfl rfl) rfl rfl ?_) | (show AWL _ _ _ (⟨_, .load _ _, _, _, _, _⟩ :: _) _ _ _; refine awl_lw ?wtq (lv_cla T0 rfl rfl rfl (by solve | repeat' constructor) rfl) rfl rfl rfl ?_) | (show AWL _ _ _ (⟨_, .binOp .eql _ _ _ _, _, _, _, _⟩ :: _) _ _ _; refine awl_pw ?wtq (pv_eql rfl rfl rfl) rfl rfl ?_) | (show AWL _ _ _ (⟨_, .pick _ _ _, _, _, _, _⟩ :: _) _ _ _; refine awl_pw ?wtq (pv_pick_t rfl rfl (by first | rfl | assumption | exact dT (by omega) | exact dF (by omega)) rfl) rfl rfl ?_)); case wtq => first | exact wt_none rfl | exact wt_some' rfl rfl rfl rfl (by first | rfl | assumption | exact dT (by omega) | exact dF (by omega))))
  refine awl_hw (by first | exact wt_none rfl | exact wt_some' rfl rfl rfl rfl (by first | rfl | assumption | exact dT (by omega) | exact dF (by omega))) (st_call T0 (c4) rfl rfl rfl rfl (by first | exact callee_lit | exact callee_v | exact callee_fn | assumption) (by solve | repeat' constructor) (by first | rfl | assumption) rfl ?_)
  rintro _ rfl
  repeat (first | ((first | (show AWL _ _ _ (⟨_, .move _, _, _, _, _⟩ :: _) _ _ _; refine awl_pw ?wtq (pv_move rfl rfl) rfl rfl ?_) | (show AWL _ _ _ (⟨_, .binOp .eql _ _ _ _, _, _, _, _⟩ :: _) _ _ _; refine awl_pw ?wtq (pv_eql rfl rfl rfl) rfl rfl ?_) | (show AWL _ _ _ (⟨_, .pick _ _ _, _, _, _, _⟩ :: _) _ _ _; refine awl_pw ?wtq (pv_pick_t rfl rfl (by first | rfl | assumption | exact dT (by omega) | exact dF (by omega)) rfl) rfl rfl ?_)); case wtq => first | exact wt_none rfl | exact wt_some' rfl rfl rfl rfl (by first | rfl | assumption | exact dT (by omega) | exact dF (by omega))))
  refine awl_hw (by first | exact wt_none rfl | exact wt_some' rfl rfl rfl rfl (by first | rfl | assumption | exact dT (by omega) | exact dF (by omega))) (st_call T0 (awake_p) rfl rfl rfl rfl (by first | exact callee_lit | exact callee_v | exact callee_fn | assumption) (by solve | repeat' constructor) (by first | rfl | assumption) rfl ?_)
  rintro _ rfl
  repeat (first | refine awp_ret ?_ | ((first | (show AWL _ _ _ (⟨_, .assign _, _, _, _, _⟩ :: _) _ _ _; refine awl_pw ?wtq (pv_assign rfl rfl) rfl rfl ?_) | (show AWL _ _ _ (⟨_, .pick _ _ _, _, _, _, _⟩ :: _) _ _ _; refine awl_pw ?wtq (pv_pick_t rfl rfl (by first | rfl | assumption | exact dT (by omega) | exact dF (by omega)) rfl) rfl rfl ?_)); case wtq => first | exact wt_none rfl | exact wt_some' rfl rfl rfl rfl (by first | rfl | assumption | exact dT (by omega) | exact dF (by omega))) | refine awl_nil ?_)
  exact body_p (.cons rfl .nil) rfl
end Go.Proofs.Yteaoclpikdmkiaa
