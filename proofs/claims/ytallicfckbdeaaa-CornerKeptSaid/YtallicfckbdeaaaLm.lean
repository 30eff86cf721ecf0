/- The law CornerKept (Try.func11): walk. (conOne serves the appends) -/
import Derived.Test.YtallicfckbdeaaaLk
import Derived.Test.YtallicfckbdeaaaLd
import Derived.Test.YtallicfckbdeaaaXf
import Derived.Test.YtallicfckbdeaaaGTs
import Derived.Test.YtallicfckbdeaaaGPa
import Derived.Test.YtallicfckbdeaaaGOb
import Derived.Test.YtallicfckbdeaaaGTy
namespace Go.Proofs.Ytallicfckbdeaaa
open Go Go.RowKit Go.Tl
set_option linter.unusedVariables false
set_option linter.unusedSimpArgs false
set_option maxRecDepth 100000
set_option maxHeartbeats 4000000
/-- an essential holder is a corner alone, so the smallest one has at most one house -/
theorem corn_one {m : MktD} (hf : faultN m = 0) (hp : possB m = true) {i : Nat} (hi : i < m.hou.length) (hs : (m.hou.getD i default).sells = true) (hb : 0 < (bndN (keepM m [(i : Int)])).1) : ∃ l, cornR m = (l, 0) ∧ l.length ≤ 1 := by
  have hext : Ext m.hou.length [(i : Int)] 0 := ext_cons.2 ⟨by omega, by omega, ext_nil⟩
  have hok : ∀ x ∈ [(i : Int)], sellB m x.toNat = true := fun x hx => by
    rw [List.mem_singleton.1 hx]
    exact hs
  have hB : (decide (0 < (bndN (keepM m [(i : Int)])).1)) = true := decide_eq_true hb
  unfold cornR
  rw [if_neg (fun c => c (by rw [asked_yes hf hp]))]
  cases h : fndL (corB m) [] (sizesC (sellB m) m.hou.length 0) with
  | none =>
    have := fnd_none (B := fun l => decide (0 < (bndN (keepM m l)).1)) (C := corB m) (fun o => rfl) h _ hext hok
    rw [hB] at this
    cases this
  | some e =>
    have hm := fnd_some (B := fun l => decide (0 < (bndN (keepM m l)).1)) (C := corB m) (fun o => rfl) h
    refine ⟨natsI e, rfl, ?_⟩
    refine Classical.byContradiction fun hn => hm.min _ hext hok hB (.inl ?_)
    simp
    omega
attribute [local irreducible] AWP AWL AOp PV LV AWT AWE
section
variable {g3 i : Nat} {m : MktD} {A S L : List Int} {still can : Bool} {u29 u30 : AV}
theorem lm_18 (hi : i < m.hou.length) (hl : m.hou.length ≤ 6) (hA : A.length ≤ 6) (hS : S.length ≤ 6) (h1 : decide ((i : Int) ∈ A) = ((m.hou.getD i default).sells && still)) (h2 : decide ((i : Int) ∈ S) = ((m.hou.getD i default).sells && can)) {ops : Array Oper} (h : regF Try.f11 18 = some ops) :
    AWP Try.prog Try.f11.ntmps none (.region 18 ops true) (cutQ (fun s h => s = [(211, boolA false), (8, intA i), (26, .t (intsT true A)), (27, .t (intsT true S)), (29, u29), (30, u30)] ∧ h = []))
      [(3, .v (ptrV g3)), (8, intA i), (23, boolA still), (24, boolA can), (26, .t (intsT true A)), (27, .t (intsT true S)), (29, u29), (30, u30)] [.cl g3 25 [intA m.ex, .t (housT false m.hou), .t (consT false m.con)]] := by
  cases h
  have c1 := has_p true A i (by omega)
  have c2 := has_p true S i (by omega)
  rw [h1] at c1
  rw [h2] at c2
  cases hs : (m.hou.getD i default).sells
  · rw [hs] at c1 c2
    refine awp_par T0 (l := (0 :: 1 :: 2 :: 3 :: 4 :: 5 :: 6 :: 7 :: 8 :: 9 :: 10 :: 11 :: 12 :: 13 :: 14 :: 15 :: 16 :: 17 :: 18 :: 19 :: 20 :: 21 :: 22 :: 23 :: 24 :: 25 :: 26 :: 27 :: [])) rfl (by kernel_rfl) (by kernel_rfl) ?_
    apply parW_op (ds := [26]) rfl rfl rfl rfl (by kernel_rfl)
    · exact .inl ⟨(wt_none rfl), stepQ_pv (pv_move rfl rfl) rfl rfl⟩
    apply parW_op (ds := [8]) rfl rfl rfl rfl (by kernel_rfl)
    · exact .inl ⟨(wt_none rfl), stepQ_pv (pv_move rfl rfl) rfl rfl⟩
    apply parW_op (ds := [184, 185]) rfl rfl rfl rfl (by kernel_rfl)
    · refine .inl ⟨(wt_none rfl), ?_⟩
      refine st_call T0 (c1) rfl rfl rfl rfl (by first | exact callee_lit | exact callee_v | exact callee_fn | assumption) rcA raA rfl ?_
      rintro _ rfl
      exact ⟨_, Ghost.refl, rfl⟩
    apply parW_op (ds := [3]) rfl rfl rfl rfl (by kernel_rfl)
    · exact .inl ⟨(wt_none rfl), stepQ_pv (pv_fa T0 rfl rfl rfl (by simp; rfl)) rfl rfl⟩
    apply parW_op (ds := [187]) rfl rfl rfl rfl (by kernel_rfl)
    · exact .inl ⟨(wt_none rfl), stepQ_lv (lv_cl1 T0 rfl rfl rfl rcA raA) rfl rfl⟩
    apply parW_op (ds := [8]) rfl rfl rfl rfl (by kernel_rfl)
    · exact .inl ⟨(wt_none rfl), stepQ_pv (pv_move rfl rfl) rfl rfl⟩
    apply parW_op (ds := [188, 189]) rfl rfl rfl rfl (by kernel_rfl)
    · exact .inl ⟨(wt_none rfl), stepQ_pv (pv_ix_t T0 rfl rfl rfl rfl (by omega) ixA) rfl rfl⟩
    apply parW_op (ds := [190]) rfl rfl rfl rfl (by kernel_rfl)
    · exact .inl ⟨(wt_none rfl), stepQ_pv (pv_fa_elt T0 rfl rfl rfl (by simp; rfl)) rfl rfl⟩
    apply parW_op (ds := [191]) rfl rfl rfl rfl (by kernel_rfl)
    · exact .inl ⟨(wt_none rfl), stepQ_lv (lv_elt_sc T0 rfl rfl rfl rfl) rfl rfl⟩
    apply parW_op (ds := [192]) rfl rfl rfl rfl (by kernel_rfl)
    · exact .inl ⟨(wt_none rfl), stepQ_pv (pv_move rfl rfl) rfl rfl⟩
    apply parW_op (ds := [23, 193]) rfl rfl rfl rfl (by kernel_rfl)
    · exact .inr ⟨(wf_some rfl rfl rfl rfl tfA), rfl⟩
    apply parW_op (ds := [193, 194]) rfl rfl rfl rfl (by kernel_rfl)
    · exact .inl ⟨(wt_none rfl), stepQ_pv (pv_pick_f rfl rfl tfA rfl) rfl rfl⟩
    apply parW_op (ds := [186, 195]) rfl rfl rfl rfl (by kernel_rfl)
    · exact .inl ⟨(wt_none rfl), stepQ_pv (pv_neqb rfl rfl rfl Try.underlying4) rfl rfl⟩
    apply parW_op (ds := [196]) rfl rfl rfl rfl (by kernel_rfl)
    · exact .inl ⟨(wt_none rfl), stepQ_pv (pv_move rfl rfl) rfl rfl⟩
    apply parW_op (ds := [27, 197]) rfl rfl rfl rfl (by kernel_rfl)
    · exact .inl ⟨wtS, stepQ_pv (pv_move rfl rfl) rfl rfl⟩
    apply parW_op (ds := [8, 197]) rfl rfl rfl rfl (by kernel_rfl)
    · exact .inl ⟨wtS, stepQ_pv (pv_move rfl rfl) rfl rfl⟩
    apply parW_op (ds := [198, 199, 197]) rfl rfl rfl rfl (by kernel_rfl)
    · refine .inl ⟨wtS, ?_⟩
      refine st_call T0 (c2) rfl rfl rfl rfl (by first | exact callee_lit | exact callee_v | exact callee_fn | assumption) rcA raA rfl ?_
      rintro _ rfl
      exact ⟨_, Ghost.refl, rfl⟩
    apply parW_op (ds := [3, 197]) rfl rfl rfl rfl (by kernel_rfl)
    · exact .inl ⟨wtS, stepQ_pv (pv_fa T0 rfl rfl rfl (by simp; rfl)) rfl rfl⟩
    apply parW_op (ds := [201, 197]) rfl rfl rfl rfl (by kernel_rfl)
    · exact .inl ⟨wtS, stepQ_lv (lv_cl1 T0 rfl rfl rfl rcA raA) rfl rfl⟩
    apply parW_op (ds := [8, 197]) rfl rfl rfl rfl (by kernel_rfl)
    · exact .inl ⟨wtS, stepQ_pv (pv_move rfl rfl) rfl rfl⟩
    apply parW_op (ds := [202, 203, 197]) rfl rfl rfl rfl (by kernel_rfl)
    · exact .inl ⟨wtS, stepQ_pv (pv_ix_t T0 rfl rfl rfl rfl (by omega) ixA) rfl rfl⟩
    apply parW_op (ds := [204, 197]) rfl rfl rfl rfl (by kernel_rfl)
    · exact .inl ⟨wtS, stepQ_pv (pv_fa_elt T0 rfl rfl rfl (by simp; rfl)) rfl rfl⟩
    apply parW_op (ds := [205, 197]) rfl rfl rfl rfl (by kernel_rfl)
    · exact .inl ⟨wtS, stepQ_lv (lv_elt_sc T0 rfl rfl rfl rfl) rfl rfl⟩
    apply parW_op (ds := [206, 197]) rfl rfl rfl rfl (by kernel_rfl)
    · exact .inl ⟨wtS, stepQ_pv (pv_move rfl rfl) rfl rfl⟩
    apply parW_op (ds := [24, 207]) rfl rfl rfl rfl (by kernel_rfl)
    · exact .inr ⟨(wf_some rfl rfl rfl rfl tfA), rfl⟩
    apply parW_op (ds := [207, 208, 197]) rfl rfl rfl rfl (by kernel_rfl)
    · exact .inl ⟨wtS, stepQ_pv (pv_pick_f rfl rfl tfA rfl) rfl rfl⟩
    apply parW_op (ds := [200, 209, 197]) rfl rfl rfl rfl (by kernel_rfl)
    · exact .inl ⟨wtS, stepQ_pv (pv_neqb rfl rfl rfl Try.underlying4) rfl rfl⟩
    apply parW_op (ds := [197, 210]) rfl rfl rfl rfl (by kernel_rfl)
    · exact .inl ⟨(wt_none rfl), stepQ_pv (pv_pick_f rfl rfl tfA rfl) rfl rfl⟩
    refine parW_nil ?_
    exact cut_n ⟨rfl, rfl⟩ ssA rcA
  · rw [hs] at c1 c2
    cases still <;> cases can
    · refine awp_par T0 (l := (0 :: 1 :: 2 :: 3 :: 4 :: 5 :: 6 :: 7 :: 8 :: 9 :: 10 :: 11 :: 12 :: 13 :: 14 :: 15 :: 16 :: 17 :: 18 :: 19 :: 20 :: 21 :: 22 :: 23 :: 24 :: 25 :: 26 :: 27 :: [])) rfl (by kernel_rfl) (by kernel_rfl) ?_
      apply parW_op (ds := [26]) rfl rfl rfl rfl (by kernel_rfl)
      · exact .inl ⟨(wt_none rfl), stepQ_pv (pv_move rfl rfl) rfl rfl⟩
      apply parW_op (ds := [8]) rfl rfl rfl rfl (by kernel_rfl)
      · exact .inl ⟨(wt_none rfl), stepQ_pv (pv_move rfl rfl) rfl rfl⟩
      apply parW_op (ds := [184, 185]) rfl rfl rfl rfl (by kernel_rfl)
      · refine .inl ⟨(wt_none rfl), ?_⟩
        refine st_call T0 (c1) rfl rfl rfl rfl (by first | exact callee_lit | exact callee_v | exact callee_fn | assumption) rcA raA rfl ?_
        rintro _ rfl
        exact ⟨_, Ghost.refl, rfl⟩
      apply parW_op (ds := [3]) rfl rfl rfl rfl (by kernel_rfl)
      · exact .inl ⟨(wt_none rfl), stepQ_pv (pv_fa T0 rfl rfl rfl (by simp; rfl)) rfl rfl⟩
      apply parW_op (ds := [187]) rfl rfl rfl rfl (by kernel_rfl)
      · exact .inl ⟨(wt_none rfl), stepQ_lv (lv_cl1 T0 rfl rfl rfl rcA raA) rfl rfl⟩
      apply parW_op (ds := [8]) rfl rfl rfl rfl (by kernel_rfl)
      · exact .inl ⟨(wt_none rfl), stepQ_pv (pv_move rfl rfl) rfl rfl⟩
      apply parW_op (ds := [188, 189]) rfl rfl rfl rfl (by kernel_rfl)
      · exact .inl ⟨(wt_none rfl), stepQ_pv (pv_ix_t T0 rfl rfl rfl rfl (by omega) ixA) rfl rfl⟩
      apply parW_op (ds := [190]) rfl rfl rfl rfl (by kernel_rfl)
      · exact .inl ⟨(wt_none rfl), stepQ_pv (pv_fa_elt T0 rfl rfl rfl (by simp; rfl)) rfl rfl⟩
      apply parW_op (ds := [191]) rfl rfl rfl rfl (by kernel_rfl)
      · exact .inl ⟨(wt_none rfl), stepQ_lv (lv_elt_sc T0 rfl rfl rfl rfl) rfl rfl⟩
      apply parW_op (ds := [192]) rfl rfl rfl rfl (by kernel_rfl)
      · exact .inl ⟨(wt_none rfl), stepQ_pv (pv_move rfl rfl) rfl rfl⟩
      apply parW_op (ds := [23, 193]) rfl rfl rfl rfl (by kernel_rfl)
      · exact .inl ⟨wtS, stepQ_pv (pv_move rfl rfl) rfl rfl⟩
      apply parW_op (ds := [193, 194]) rfl rfl rfl rfl (by kernel_rfl)
      · exact .inl ⟨(wt_none rfl), stepQ_pv (pv_pick_t rfl rfl tfA rfl) rfl rfl⟩
      apply parW_op (ds := [186, 195]) rfl rfl rfl rfl (by kernel_rfl)
      · exact .inl ⟨(wt_none rfl), stepQ_pv (pv_neqb rfl rfl rfl Try.underlying4) rfl rfl⟩
      apply parW_op (ds := [196]) rfl rfl rfl rfl (by kernel_rfl)
      · exact .inl ⟨(wt_none rfl), stepQ_pv (pv_move rfl rfl) rfl rfl⟩
      apply parW_op (ds := [27, 197]) rfl rfl rfl rfl (by kernel_rfl)
      · exact .inl ⟨wtS, stepQ_pv (pv_move rfl rfl) rfl rfl⟩
      apply parW_op (ds := [8, 197]) rfl rfl rfl rfl (by kernel_rfl)
      · exact .inl ⟨wtS, stepQ_pv (pv_move rfl rfl) rfl rfl⟩
      apply parW_op (ds := [198, 199, 197]) rfl rfl rfl rfl (by kernel_rfl)
      · refine .inl ⟨wtS, ?_⟩
        refine st_call T0 (c2) rfl rfl rfl rfl (by first | exact callee_lit | exact callee_v | exact callee_fn | assumption) rcA raA rfl ?_
        rintro _ rfl
        exact ⟨_, Ghost.refl, rfl⟩
      apply parW_op (ds := [3, 197]) rfl rfl rfl rfl (by kernel_rfl)
      · exact .inl ⟨wtS, stepQ_pv (pv_fa T0 rfl rfl rfl (by simp; rfl)) rfl rfl⟩
      apply parW_op (ds := [201, 197]) rfl rfl rfl rfl (by kernel_rfl)
      · exact .inl ⟨wtS, stepQ_lv (lv_cl1 T0 rfl rfl rfl rcA raA) rfl rfl⟩
      apply parW_op (ds := [8, 197]) rfl rfl rfl rfl (by kernel_rfl)
      · exact .inl ⟨wtS, stepQ_pv (pv_move rfl rfl) rfl rfl⟩
      apply parW_op (ds := [202, 203, 197]) rfl rfl rfl rfl (by kernel_rfl)
      · exact .inl ⟨wtS, stepQ_pv (pv_ix_t T0 rfl rfl rfl rfl (by omega) ixA) rfl rfl⟩
      apply parW_op (ds := [204, 197]) rfl rfl rfl rfl (by kernel_rfl)
      · exact .inl ⟨wtS, stepQ_pv (pv_fa_elt T0 rfl rfl rfl (by simp; rfl)) rfl rfl⟩
      apply parW_op (ds := [205, 197]) rfl rfl rfl rfl (by kernel_rfl)
      · exact .inl ⟨wtS, stepQ_lv (lv_elt_sc T0 rfl rfl rfl rfl) rfl rfl⟩
      apply parW_op (ds := [206, 197]) rfl rfl rfl rfl (by kernel_rfl)
      · exact .inl ⟨wtS, stepQ_pv (pv_move rfl rfl) rfl rfl⟩
      apply parW_op (ds := [24, 207]) rfl rfl rfl rfl (by kernel_rfl)
      · exact .inl ⟨wtS, stepQ_pv (pv_move rfl rfl) rfl rfl⟩
      apply parW_op (ds := [207, 208, 197]) rfl rfl rfl rfl (by kernel_rfl)
      · exact .inl ⟨wtS, stepQ_pv (pv_pick_t rfl rfl tfA rfl) rfl rfl⟩
      apply parW_op (ds := [200, 209, 197]) rfl rfl rfl rfl (by kernel_rfl)
      · exact .inl ⟨wtS, stepQ_pv (pv_neqb rfl rfl rfl Try.underlying4) rfl rfl⟩
      apply parW_op (ds := [197, 210]) rfl rfl rfl rfl (by kernel_rfl)
      · exact .inl ⟨(wt_none rfl), stepQ_pv (pv_pick_f rfl rfl tfA rfl) rfl rfl⟩
      refine parW_nil ?_
      exact cut_n ⟨rfl, rfl⟩ ssA rcA
    · refine awp_par T0 (l := (0 :: 1 :: 2 :: 3 :: 4 :: 5 :: 6 :: 7 :: 8 :: 9 :: 10 :: 11 :: 12 :: 13 :: 14 :: 15 :: 16 :: 17 :: 18 :: 19 :: 20 :: 21 :: 22 :: 23 :: 24 :: 25 :: 26 :: 27 :: [])) rfl (by kernel_rfl) (by kernel_rfl) ?_
      apply parW_op (ds := [26]) rfl rfl rfl rfl (by kernel_rfl)
      · exact .inl ⟨(wt_none rfl), stepQ_pv (pv_move rfl rfl) rfl rfl⟩
      apply parW_op (ds := [8]) rfl rfl rfl rfl (by kernel_rfl)
      · exact .inl ⟨(wt_none rfl), stepQ_pv (pv_move rfl rfl) rfl rfl⟩
      apply parW_op (ds := [184, 185]) rfl rfl rfl rfl (by kernel_rfl)
      · refine .inl ⟨(wt_none rfl), ?_⟩
        refine st_call T0 (c1) rfl rfl rfl rfl (by first | exact callee_lit | exact callee_v | exact callee_fn | assumption) rcA raA rfl ?_
        rintro _ rfl
        exact ⟨_, Ghost.refl, rfl⟩
      apply parW_op (ds := [3]) rfl rfl rfl rfl (by kernel_rfl)
      · exact .inl ⟨(wt_none rfl), stepQ_pv (pv_fa T0 rfl rfl rfl (by simp; rfl)) rfl rfl⟩
      apply parW_op (ds := [187]) rfl rfl rfl rfl (by kernel_rfl)
      · exact .inl ⟨(wt_none rfl), stepQ_lv (lv_cl1 T0 rfl rfl rfl rcA raA) rfl rfl⟩
      apply parW_op (ds := [8]) rfl rfl rfl rfl (by kernel_rfl)
      · exact .inl ⟨(wt_none rfl), stepQ_pv (pv_move rfl rfl) rfl rfl⟩
      apply parW_op (ds := [188, 189]) rfl rfl rfl rfl (by kernel_rfl)
      · exact .inl ⟨(wt_none rfl), stepQ_pv (pv_ix_t T0 rfl rfl rfl rfl (by omega) ixA) rfl rfl⟩
      apply parW_op (ds := [190]) rfl rfl rfl rfl (by kernel_rfl)
      · exact .inl ⟨(wt_none rfl), stepQ_pv (pv_fa_elt T0 rfl rfl rfl (by simp; rfl)) rfl rfl⟩
      apply parW_op (ds := [191]) rfl rfl rfl rfl (by kernel_rfl)
      · exact .inl ⟨(wt_none rfl), stepQ_lv (lv_elt_sc T0 rfl rfl rfl rfl) rfl rfl⟩
      apply parW_op (ds := [192]) rfl rfl rfl rfl (by kernel_rfl)
      · exact .inl ⟨(wt_none rfl), stepQ_pv (pv_move rfl rfl) rfl rfl⟩
      apply parW_op (ds := [23, 193]) rfl rfl rfl rfl (by kernel_rfl)
      · exact .inl ⟨wtS, stepQ_pv (pv_move rfl rfl) rfl rfl⟩
      apply parW_op (ds := [193, 194]) rfl rfl rfl rfl (by kernel_rfl)
      · exact .inl ⟨(wt_none rfl), stepQ_pv (pv_pick_t rfl rfl tfA rfl) rfl rfl⟩
      apply parW_op (ds := [186, 195]) rfl rfl rfl rfl (by kernel_rfl)
      · exact .inl ⟨(wt_none rfl), stepQ_pv (pv_neqb rfl rfl rfl Try.underlying4) rfl rfl⟩
      apply parW_op (ds := [196]) rfl rfl rfl rfl (by kernel_rfl)
      · exact .inl ⟨(wt_none rfl), stepQ_pv (pv_move rfl rfl) rfl rfl⟩
      apply parW_op (ds := [27, 197]) rfl rfl rfl rfl (by kernel_rfl)
      · exact .inl ⟨wtS, stepQ_pv (pv_move rfl rfl) rfl rfl⟩
      apply parW_op (ds := [8, 197]) rfl rfl rfl rfl (by kernel_rfl)
      · exact .inl ⟨wtS, stepQ_pv (pv_move rfl rfl) rfl rfl⟩
      apply parW_op (ds := [198, 199, 197]) rfl rfl rfl rfl (by kernel_rfl)
      · refine .inl ⟨wtS, ?_⟩
        refine st_call T0 (c2) rfl rfl rfl rfl (by first | exact callee_lit | exact callee_v | exact callee_fn | assumption) rcA raA rfl ?_
        rintro _ rfl
        exact ⟨_, Ghost.refl, rfl⟩
      apply parW_op (ds := [3, 197]) rfl rfl rfl rfl (by kernel_rfl)
      · exact .inl ⟨wtS, stepQ_pv (pv_fa T0 rfl rfl rfl (by simp; rfl)) rfl rfl⟩
      apply parW_op (ds := [201, 197]) rfl rfl rfl rfl (by kernel_rfl)
      · exact .inl ⟨wtS, stepQ_lv (lv_cl1 T0 rfl rfl rfl rcA raA) rfl rfl⟩
      apply parW_op (ds := [8, 197]) rfl rfl rfl rfl (by kernel_rfl)
      · exact .inl ⟨wtS, stepQ_pv (pv_move rfl rfl) rfl rfl⟩
      apply parW_op (ds := [202, 203, 197]) rfl rfl rfl rfl (by kernel_rfl)
      · exact .inl ⟨wtS, stepQ_pv (pv_ix_t T0 rfl rfl rfl rfl (by omega) ixA) rfl rfl⟩
      apply parW_op (ds := [204, 197]) rfl rfl rfl rfl (by kernel_rfl)
      · exact .inl ⟨wtS, stepQ_pv (pv_fa_elt T0 rfl rfl rfl (by simp; rfl)) rfl rfl⟩
      apply parW_op (ds := [205, 197]) rfl rfl rfl rfl (by kernel_rfl)
      · exact .inl ⟨wtS, stepQ_lv (lv_elt_sc T0 rfl rfl rfl rfl) rfl rfl⟩
      apply parW_op (ds := [206, 197]) rfl rfl rfl rfl (by kernel_rfl)
      · exact .inl ⟨wtS, stepQ_pv (pv_move rfl rfl) rfl rfl⟩
      apply parW_op (ds := [24, 207]) rfl rfl rfl rfl (by kernel_rfl)
      · exact .inl ⟨wtS, stepQ_pv (pv_move rfl rfl) rfl rfl⟩
      apply parW_op (ds := [207, 208, 197]) rfl rfl rfl rfl (by kernel_rfl)
      · exact .inl ⟨wtS, stepQ_pv (pv_pick_t rfl rfl tfA rfl) rfl rfl⟩
      apply parW_op (ds := [200, 209, 197]) rfl rfl rfl rfl (by kernel_rfl)
      · exact .inl ⟨wtS, stepQ_pv (pv_neqb rfl rfl rfl Try.underlying4) rfl rfl⟩
      apply parW_op (ds := [197, 210]) rfl rfl rfl rfl (by kernel_rfl)
      · exact .inl ⟨(wt_none rfl), stepQ_pv (pv_pick_f rfl rfl tfA rfl) rfl rfl⟩
      refine parW_nil ?_
      exact cut_n ⟨rfl, rfl⟩ ssA rcA
    · refine awp_par T0 (l := (0 :: 1 :: 2 :: 3 :: 4 :: 5 :: 6 :: 7 :: 8 :: 9 :: 10 :: 11 :: 12 :: 13 :: 14 :: 15 :: 16 :: 17 :: 18 :: 19 :: 20 :: 21 :: 22 :: 23 :: 24 :: 25 :: 26 :: 27 :: [])) rfl (by kernel_rfl) (by kernel_rfl) ?_
      apply parW_op (ds := [26]) rfl rfl rfl rfl (by kernel_rfl)
      · exact .inl ⟨(wt_none rfl), stepQ_pv (pv_move rfl rfl) rfl rfl⟩
      apply parW_op (ds := [8]) rfl rfl rfl rfl (by kernel_rfl)
      · exact .inl ⟨(wt_none rfl), stepQ_pv (pv_move rfl rfl) rfl rfl⟩
      apply parW_op (ds := [184, 185]) rfl rfl rfl rfl (by kernel_rfl)
      · refine .inl ⟨(wt_none rfl), ?_⟩
        refine st_call T0 (c1) rfl rfl rfl rfl (by first | exact callee_lit | exact callee_v | exact callee_fn | assumption) rcA raA rfl ?_
        rintro _ rfl
        exact ⟨_, Ghost.refl, rfl⟩
      apply parW_op (ds := [3]) rfl rfl rfl rfl (by kernel_rfl)
      · exact .inl ⟨(wt_none rfl), stepQ_pv (pv_fa T0 rfl rfl rfl (by simp; rfl)) rfl rfl⟩
      apply parW_op (ds := [187]) rfl rfl rfl rfl (by kernel_rfl)
      · exact .inl ⟨(wt_none rfl), stepQ_lv (lv_cl1 T0 rfl rfl rfl rcA raA) rfl rfl⟩
      apply parW_op (ds := [8]) rfl rfl rfl rfl (by kernel_rfl)
      · exact .inl ⟨(wt_none rfl), stepQ_pv (pv_move rfl rfl) rfl rfl⟩
      apply parW_op (ds := [188, 189]) rfl rfl rfl rfl (by kernel_rfl)
      · exact .inl ⟨(wt_none rfl), stepQ_pv (pv_ix_t T0 rfl rfl rfl rfl (by omega) ixA) rfl rfl⟩
      apply parW_op (ds := [190]) rfl rfl rfl rfl (by kernel_rfl)
      · exact .inl ⟨(wt_none rfl), stepQ_pv (pv_fa_elt T0 rfl rfl rfl (by simp; rfl)) rfl rfl⟩
      apply parW_op (ds := [191]) rfl rfl rfl rfl (by kernel_rfl)
      · exact .inl ⟨(wt_none rfl), stepQ_lv (lv_elt_sc T0 rfl rfl rfl rfl) rfl rfl⟩
      apply parW_op (ds := [192]) rfl rfl rfl rfl (by kernel_rfl)
      · exact .inl ⟨(wt_none rfl), stepQ_pv (pv_move rfl rfl) rfl rfl⟩
      apply parW_op (ds := [23, 193]) rfl rfl rfl rfl (by kernel_rfl)
      · exact .inl ⟨wtS, stepQ_pv (pv_move rfl rfl) rfl rfl⟩
      apply parW_op (ds := [193, 194]) rfl rfl rfl rfl (by kernel_rfl)
      · exact .inl ⟨(wt_none rfl), stepQ_pv (pv_pick_t rfl rfl tfA rfl) rfl rfl⟩
      apply parW_op (ds := [186, 195]) rfl rfl rfl rfl (by kernel_rfl)
      · exact .inl ⟨(wt_none rfl), stepQ_pv (pv_neqb rfl rfl rfl Try.underlying4) rfl rfl⟩
      apply parW_op (ds := [196]) rfl rfl rfl rfl (by kernel_rfl)
      · exact .inl ⟨(wt_none rfl), stepQ_pv (pv_move rfl rfl) rfl rfl⟩
      apply parW_op (ds := [27, 197]) rfl rfl rfl rfl (by kernel_rfl)
      · exact .inl ⟨wtS, stepQ_pv (pv_move rfl rfl) rfl rfl⟩
      apply parW_op (ds := [8, 197]) rfl rfl rfl rfl (by kernel_rfl)
      · exact .inl ⟨wtS, stepQ_pv (pv_move rfl rfl) rfl rfl⟩
      apply parW_op (ds := [198, 199, 197]) rfl rfl rfl rfl (by kernel_rfl)
      · refine .inl ⟨wtS, ?_⟩
        refine st_call T0 (c2) rfl rfl rfl rfl (by first | exact callee_lit | exact callee_v | exact callee_fn | assumption) rcA raA rfl ?_
        rintro _ rfl
        exact ⟨_, Ghost.refl, rfl⟩
      apply parW_op (ds := [3, 197]) rfl rfl rfl rfl (by kernel_rfl)
      · exact .inl ⟨wtS, stepQ_pv (pv_fa T0 rfl rfl rfl (by simp; rfl)) rfl rfl⟩
      apply parW_op (ds := [201, 197]) rfl rfl rfl rfl (by kernel_rfl)
      · exact .inl ⟨wtS, stepQ_lv (lv_cl1 T0 rfl rfl rfl rcA raA) rfl rfl⟩
      apply parW_op (ds := [8, 197]) rfl rfl rfl rfl (by kernel_rfl)
      · exact .inl ⟨wtS, stepQ_pv (pv_move rfl rfl) rfl rfl⟩
      apply parW_op (ds := [202, 203, 197]) rfl rfl rfl rfl (by kernel_rfl)
      · exact .inl ⟨wtS, stepQ_pv (pv_ix_t T0 rfl rfl rfl rfl (by omega) ixA) rfl rfl⟩
      apply parW_op (ds := [204, 197]) rfl rfl rfl rfl (by kernel_rfl)
      · exact .inl ⟨wtS, stepQ_pv (pv_fa_elt T0 rfl rfl rfl (by simp; rfl)) rfl rfl⟩
      apply parW_op (ds := [205, 197]) rfl rfl rfl rfl (by kernel_rfl)
      · exact .inl ⟨wtS, stepQ_lv (lv_elt_sc T0 rfl rfl rfl rfl) rfl rfl⟩
      apply parW_op (ds := [206, 197]) rfl rfl rfl rfl (by kernel_rfl)
      · exact .inl ⟨wtS, stepQ_pv (pv_move rfl rfl) rfl rfl⟩
      apply parW_op (ds := [24, 207]) rfl rfl rfl rfl (by kernel_rfl)
      · exact .inl ⟨wtS, stepQ_pv (pv_move rfl rfl) rfl rfl⟩
      apply parW_op (ds := [207, 208, 197]) rfl rfl rfl rfl (by kernel_rfl)
      · exact .inl ⟨wtS, stepQ_pv (pv_pick_t rfl rfl tfA rfl) rfl rfl⟩
      apply parW_op (ds := [200, 209, 197]) rfl rfl rfl rfl (by kernel_rfl)
      · exact .inl ⟨wtS, stepQ_pv (pv_neqb rfl rfl rfl Try.underlying4) rfl rfl⟩
      apply parW_op (ds := [197, 210]) rfl rfl rfl rfl (by kernel_rfl)
      · exact .inl ⟨(wt_none rfl), stepQ_pv (pv_pick_f rfl rfl tfA rfl) rfl rfl⟩
      refine parW_nil ?_
      exact cut_n ⟨rfl, rfl⟩ ssA rcA
    · refine awp_par T0 (l := (0 :: 1 :: 2 :: 3 :: 4 :: 5 :: 6 :: 7 :: 8 :: 9 :: 10 :: 11 :: 12 :: 13 :: 14 :: 15 :: 16 :: 17 :: 18 :: 19 :: 20 :: 21 :: 22 :: 23 :: 24 :: 25 :: 26 :: 27 :: [])) rfl (by kernel_rfl) (by kernel_rfl) ?_
      apply parW_op (ds := [26]) rfl rfl rfl rfl (by kernel_rfl)
      · exact .inl ⟨(wt_none rfl), stepQ_pv (pv_move rfl rfl) rfl rfl⟩
      apply parW_op (ds := [8]) rfl rfl rfl rfl (by kernel_rfl)
      · exact .inl ⟨(wt_none rfl), stepQ_pv (pv_move rfl rfl) rfl rfl⟩
      apply parW_op (ds := [184, 185]) rfl rfl rfl rfl (by kernel_rfl)
      · refine .inl ⟨(wt_none rfl), ?_⟩
        refine st_call T0 (c1) rfl rfl rfl rfl (by first | exact callee_lit | exact callee_v | exact callee_fn | assumption) rcA raA rfl ?_
        rintro _ rfl
        exact ⟨_, Ghost.refl, rfl⟩
      apply parW_op (ds := [3]) rfl rfl rfl rfl (by kernel_rfl)
      · exact .inl ⟨(wt_none rfl), stepQ_pv (pv_fa T0 rfl rfl rfl (by simp; rfl)) rfl rfl⟩
      apply parW_op (ds := [187]) rfl rfl rfl rfl (by kernel_rfl)
      · exact .inl ⟨(wt_none rfl), stepQ_lv (lv_cl1 T0 rfl rfl rfl rcA raA) rfl rfl⟩
      apply parW_op (ds := [8]) rfl rfl rfl rfl (by kernel_rfl)
      · exact .inl ⟨(wt_none rfl), stepQ_pv (pv_move rfl rfl) rfl rfl⟩
      apply parW_op (ds := [188, 189]) rfl rfl rfl rfl (by kernel_rfl)
      · exact .inl ⟨(wt_none rfl), stepQ_pv (pv_ix_t T0 rfl rfl rfl rfl (by omega) ixA) rfl rfl⟩
      apply parW_op (ds := [190]) rfl rfl rfl rfl (by kernel_rfl)
      · exact .inl ⟨(wt_none rfl), stepQ_pv (pv_fa_elt T0 rfl rfl rfl (by simp; rfl)) rfl rfl⟩
      apply parW_op (ds := [191]) rfl rfl rfl rfl (by kernel_rfl)
      · exact .inl ⟨(wt_none rfl), stepQ_lv (lv_elt_sc T0 rfl rfl rfl rfl) rfl rfl⟩
      apply parW_op (ds := [192]) rfl rfl rfl rfl (by kernel_rfl)
      · exact .inl ⟨(wt_none rfl), stepQ_pv (pv_move rfl rfl) rfl rfl⟩
      apply parW_op (ds := [23, 193]) rfl rfl rfl rfl (by kernel_rfl)
      · exact .inl ⟨wtS, stepQ_pv (pv_move rfl rfl) rfl rfl⟩
      apply parW_op (ds := [193, 194]) rfl rfl rfl rfl (by kernel_rfl)
      · exact .inl ⟨(wt_none rfl), stepQ_pv (pv_pick_t rfl rfl tfA rfl) rfl rfl⟩
      apply parW_op (ds := [186, 195]) rfl rfl rfl rfl (by kernel_rfl)
      · exact .inl ⟨(wt_none rfl), stepQ_pv (pv_neqb rfl rfl rfl Try.underlying4) rfl rfl⟩
      apply parW_op (ds := [196]) rfl rfl rfl rfl (by kernel_rfl)
      · exact .inl ⟨(wt_none rfl), stepQ_pv (pv_move rfl rfl) rfl rfl⟩
      apply parW_op (ds := [27, 197]) rfl rfl rfl rfl (by kernel_rfl)
      · exact .inl ⟨wtS, stepQ_pv (pv_move rfl rfl) rfl rfl⟩
      apply parW_op (ds := [8, 197]) rfl rfl rfl rfl (by kernel_rfl)
      · exact .inl ⟨wtS, stepQ_pv (pv_move rfl rfl) rfl rfl⟩
      apply parW_op (ds := [198, 199, 197]) rfl rfl rfl rfl (by kernel_rfl)
      · refine .inl ⟨wtS, ?_⟩
        refine st_call T0 (c2) rfl rfl rfl rfl (by first | exact callee_lit | exact callee_v | exact callee_fn | assumption) rcA raA rfl ?_
        rintro _ rfl
        exact ⟨_, Ghost.refl, rfl⟩
      apply parW_op (ds := [3, 197]) rfl rfl rfl rfl (by kernel_rfl)
      · exact .inl ⟨wtS, stepQ_pv (pv_fa T0 rfl rfl rfl (by simp; rfl)) rfl rfl⟩
      apply parW_op (ds := [201, 197]) rfl rfl rfl rfl (by kernel_rfl)
      · exact .inl ⟨wtS, stepQ_lv (lv_cl1 T0 rfl rfl rfl rcA raA) rfl rfl⟩
      apply parW_op (ds := [8, 197]) rfl rfl rfl rfl (by kernel_rfl)
      · exact .inl ⟨wtS, stepQ_pv (pv_move rfl rfl) rfl rfl⟩
      apply parW_op (ds := [202, 203, 197]) rfl rfl rfl rfl (by kernel_rfl)
      · exact .inl ⟨wtS, stepQ_pv (pv_ix_t T0 rfl rfl rfl rfl (by omega) ixA) rfl rfl⟩
      apply parW_op (ds := [204, 197]) rfl rfl rfl rfl (by kernel_rfl)
      · exact .inl ⟨wtS, stepQ_pv (pv_fa_elt T0 rfl rfl rfl (by simp; rfl)) rfl rfl⟩
      apply parW_op (ds := [205, 197]) rfl rfl rfl rfl (by kernel_rfl)
      · exact .inl ⟨wtS, stepQ_lv (lv_elt_sc T0 rfl rfl rfl rfl) rfl rfl⟩
      apply parW_op (ds := [206, 197]) rfl rfl rfl rfl (by kernel_rfl)
      · exact .inl ⟨wtS, stepQ_pv (pv_move rfl rfl) rfl rfl⟩
      apply parW_op (ds := [24, 207]) rfl rfl rfl rfl (by kernel_rfl)
      · exact .inl ⟨wtS, stepQ_pv (pv_move rfl rfl) rfl rfl⟩
      apply parW_op (ds := [207, 208, 197]) rfl rfl rfl rfl (by kernel_rfl)
      · exact .inl ⟨wtS, stepQ_pv (pv_pick_t rfl rfl tfA rfl) rfl rfl⟩
      apply parW_op (ds := [200, 209, 197]) rfl rfl rfl rfl (by kernel_rfl)
      · exact .inl ⟨wtS, stepQ_pv (pv_neqb rfl rfl rfl Try.underlying4) rfl rfl⟩
      apply parW_op (ds := [197, 210]) rfl rfl rfl rfl (by kernel_rfl)
      · exact .inl ⟨(wt_none rfl), stepQ_pv (pv_pick_f rfl rfl tfA rfl) rfl rfl⟩
      refine parW_nil ?_
      exact cut_n ⟨rfl, rfl⟩ ssA rcA
end
/-- sums of needs and spare shares -/
theorem sums_p {m : MktD} {t : List Int} (hv : VMkt m) (ht : truthB m t = true) : PCall Try.prog 46 [.t (intsT true (needL m t m.hou.length))] (fun r => r = intA (sumK (needL m t m.hou.length) m.hou.length)) ∧ PCall Try.prog 46 [.t (intsT true (spareL m t m.hou.length))] (fun r => r = intA (sumK (spareL m t m.hou.length) m.hou.length)) ∧ (-10000000 ≤ sumK (needL m t m.hou.length) m.hou.length ∧ sumK (needL m t m.hou.length) m.hou.length ≤ 10000000) ∧ (-10000000 ≤ sumK (spareL m t m.hou.length) m.hou.length ∧ sumK (spareL m t m.hou.length) m.hou.length ≤ 10000000) := by
  have hlen := hv.len
  have l1 := needL_len m t m.hou.length
  have l2 := spareL_len m t m.hou.length
  have b1 : ∀ i, i < (needL m t m.hou.length).length → -1000000 ≤ (needL m t m.hou.length).getD i 0 ∧ (needL m t m.hou.length).getD i 0 ≤ 1000000 := fun i hi => by
    rw [l1] at hi
    rw [needL_at hi]
    have := pos_bd hv ht hi
    have := needN_bd (p := posN m t i) (by omega)
    omega
  have b2 : ∀ i, i < (spareL m t m.hou.length).length → -1000000 ≤ (spareL m t m.hou.length).getD i 0 ∧ (spareL m t m.hou.length).getD i 0 ≤ 1000000 := fun i hi => by
    rw [l2] at hi
    rw [spareL_at hi]
    have := pos_bd hv ht hi
    have := spareN_bd (hh := m.hou.getD i default) (p := posN m t i) (by omega)
    omega
  have c1 := sum_p true (needL m t m.hou.length) (by omega) b1
  have c2 := sum_p true (spareL m t m.hou.length) (by omega) b2
  have q1 := sumK_bd b1 m.hou.length (by omega)
  have q2 := sumK_bd b2 m.hou.length (by omega)
  rw [l1] at c1
  rw [l2] at c2
  exact ⟨c1, c2, by omega, by omega⟩
theorem CornerKept_p (m : MktD) (ws : List Int) (w : Int) (hl : m.hou.length ≤ maxLen) (hc : m.con.length ≤ maxLen) (hwl : ws.length ≤ maxLen) (hw : ∀ x ∈ ws, 0 ≤ x ∧ x ≤ 65535) (hw0 : 0 ≤ w ∧ w ≤ 255) : PCall Try.prog 11 [mktA false false m, .t (kintsT .u16 ws), .v (.int .u8 w)] (fun r => r = boolA true) := by
  have hr := ready_p m hl hc
  have hwl' : ws.length ≤ 9223372036854775807 := hwl
  clear hl hc hwl
  refine acall_of_awp T0 Try.func11 rfl rfl rfl ?_
  by_cases hf : faultN m = 0
  case neg =>
    rw [decide_eq_false hf] at hr
    repeat (first | refine awp_seq ?_ | refine awp_region_lit rfl ?_)
    refine awl_hw wtA (st_box rfl rfl raA (by first | assumption | (simp only [cellsA]; rfl)) rfl rfl ?_)
    intro g3
    repeat (first | refine awp_seq ?_ | refine awp_region_lit rfl ?_ | ((first | (show AWL _ _ _ (⟨_, .assign _, _, _, _, _⟩ :: _) _ _ _; refine awl_pw ?wtq (pv_assign rfl rfl) rfl rfl ?_) | (show AWL _ _ _ (⟨_, .load _ _, _, _, _, _⟩ :: _) _ _ _; refine awl_lw ?wtq (lv_cla T0 rfl rfl rfl rcA rfl) rfl rfl rfl ?_)); case wtq => exact wtA) | refine awl_nil ?_)
    refine awl_hw wtA (st_call T0 (hr) rfl rfl rfl rfl (by first | exact callee_lit | exact callee_v | exact callee_fn | assumption) rcA raA rfl ?_)
    rintro _ rfl
    repeat (first | refine awp_seq ?_ | refine awp_region_lit rfl ?_ | with_reducible refine then_n ?_ | refine awp_cond_t rfl (by first | rfl | assumption | exact dT (by omega)) ?_ | ((first | (show AWL _ _ _ (⟨_, .move _, _, _, _, _⟩ :: _) _ _ _; refine awl_pw ?wtq (pv_move rfl rfl) rfl rfl ?_) | (show AWL _ _ _ (⟨_, .load _ _, _, _, _, _⟩ :: _) _ _ _; refine awl_lw ?wtq (lv_cla T0 rfl rfl rfl rcA rfl) rfl rfl rfl ?_) | (show AWL _ _ _ (⟨_, .unOp .not _ _, _, _, _, _⟩ :: _) _ _ _; refine awl_pw ?wtq (pv_not rfl rfl) rfl rfl ?_) | (show AWL _ _ _ (⟨_, .pick _ _ _, _, _, _, _⟩ :: _) _ _ _; refine awl_pw ?wtq (pv_pick_t rfl rfl tfA rfl) rfl rfl ?_)); case wtq => exact wtA) | refine awl_sk (wf_some rfl rfl rfl rfl tfA) rfl rfl ?_ | refine awl_nil ?_)
    refine awl_hw wtA (st_call T0 (awake_p) rfl rfl rfl rfl (by first | exact callee_lit | exact callee_v | exact callee_fn | assumption) rcA raA rfl ?_)
    rintro _ rfl
    repeat (first | refine awp_ret ?_ | with_reducible refine then_r ?_ | ((first | (show AWL _ _ _ (⟨_, .assign _, _, _, _, _⟩ :: _) _ _ _; refine awl_pw ?wtq (pv_assign rfl rfl) rfl rfl ?_)); case wtq => exact wtA) | refine awl_nil ?_)
    exact body_p (.cons rfl .nil) rfl
  have hv := vmkt hf
  have hlen := hv.len
  have hpos := hv.pos
  have hclen := hv.clen
  rw [decide_eq_true hf] at hr
  have hH := refhas_p false false m hv
  cases e : possB m
  · rw [e] at hH
    repeat (first | refine awp_seq ?_ | refine awp_region_lit rfl ?_)
    refine awl_hw wtA (st_box rfl rfl raA (by first | assumption | (simp only [cellsA]; rfl)) rfl rfl ?_)
    intro g3
    repeat (first | refine awp_seq ?_ | refine awp_region_lit rfl ?_ | ((first | (show AWL _ _ _ (⟨_, .assign _, _, _, _, _⟩ :: _) _ _ _; refine awl_pw ?wtq (pv_assign rfl rfl) rfl rfl ?_) | (show AWL _ _ _ (⟨_, .load _ _, _, _, _, _⟩ :: _) _ _ _; refine awl_lw ?wtq (lv_cla T0 rfl rfl rfl rcA rfl) rfl rfl rfl ?_)); case wtq => exact wtA) | refine awl_nil ?_)
    refine awl_hw wtA (st_call T0 (hr) rfl rfl rfl rfl (by first | exact callee_lit | exact callee_v | exact callee_fn | assumption) rcA raA rfl ?_)
    rintro _ rfl
    repeat (first | ((first | (show AWL _ _ _ (⟨_, .move _, _, _, _, _⟩ :: _) _ _ _; refine awl_pw ?wtq (pv_move rfl rfl) rfl rfl ?_) | (show AWL _ _ _ (⟨_, .load _ _, _, _, _, _⟩ :: _) _ _ _; refine awl_lw ?wtq (lv_cla T0 rfl rfl rfl rcA rfl) rfl rfl rfl ?_) | (show AWL _ _ _ (⟨_, .unOp .not _ _, _, _, _, _⟩ :: _) _ _ _; refine awl_pw ?wtq (pv_not rfl rfl) rfl rfl ?_)); case wtq => exact wtA))
    refine awl_hw wtA (st_call T0 (hH) rfl rfl rfl rfl (by first | exact callee_lit | exact callee_v | exact callee_fn | assumption) rcA raA rfl ?_)
    rintro _ rfl
    repeat (first | refine awp_seq ?_ | refine awp_region_lit rfl ?_ | with_reducible refine then_n ?_ | refine awp_cond_t rfl (by first | rfl | assumption | exact dT (by omega)) ?_ | ((first | (show AWL _ _ _ (⟨_, .unOp .not _ _, _, _, _, _⟩ :: _) _ _ _; refine awl_pw ?wtq (pv_not rfl rfl) rfl rfl ?_) | (show AWL _ _ _ (⟨_, .pick _ _ _, _, _, _, _⟩ :: _) _ _ _; refine awl_pw ?wtq (pv_pick_f rfl rfl tfA rfl) rfl rfl ?_)); case wtq => exact wtA) | refine awl_nil ?_)
    refine awl_hw wtA (st_call T0 (awake_p) rfl rfl rfl rfl (by first | exact callee_lit | exact callee_v | exact callee_fn | assumption) rcA raA rfl ?_)
    rintro _ rfl
    repeat (first | refine awp_ret ?_ | with_reducible refine then_r ?_ | ((first | (show AWL _ _ _ (⟨_, .assign _, _, _, _, _⟩ :: _) _ _ _; refine awl_pw ?wtq (pv_assign rfl rfl) rfl rfl ?_)); case wtq => exact wtA) | refine awl_nil ?_)
    exact body_p (.cons rfl .nil) rfl
  rw [e] at hH
  obtain ⟨i, hi⟩ := Int.eq_ofNat_of_zero_le (Int.tmod_nonneg (m.hou.length : Int) hw0.1)
  have hin : i < m.hou.length := by
    have := Int.tmod_lt_of_pos w (show (0 : Int) < m.hou.length by omega)
    omega
  have hrows : (m.hou.map houRow).length = m.hou.length := List.length_map _
  have hs1 := hrow_set (off := 2) (ys := [boolA false]) (h' := noSell (m.hou.getD i default)) hin rfl
  repeat (first | refine awp_seq ?_ | refine awp_region_lit rfl ?_)
  refine awl_hw wtA (st_box rfl rfl raA (by first | assumption | (simp only [cellsA]; rfl)) rfl rfl ?_)
  intro g3
  repeat (first | refine awp_seq ?_ | refine awp_region_lit rfl ?_ | ((first | (show AWL _ _ _ (⟨_, .assign _, _, _, _, _⟩ :: _) _ _ _; refine awl_pw ?wtq (pv_assign rfl rfl) rfl rfl ?_) | (show AWL _ _ _ (⟨_, .load _ _, _, _, _, _⟩ :: _) _ _ _; refine awl_lw ?wtq (lv_cla T0 rfl rfl rfl rcA rfl) rfl rfl rfl ?_)); case wtq => exact wtA) | refine awl_nil ?_)
  refine awl_hw wtA (st_call T0 (hr) rfl rfl rfl rfl (by first | exact callee_lit | exact callee_v | exact callee_fn | assumption) rcA raA rfl ?_)
  rintro _ rfl
  repeat (first | ((first | (show AWL _ _ _ (⟨_, .move _, _, _, _, _⟩ :: _) _ _ _; refine awl_pw ?wtq (pv_move rfl rfl) rfl rfl ?_) | (show AWL _ _ _ (⟨_, .load _ _, _, _, _, _⟩ :: _) _ _ _; refine awl_lw ?wtq (lv_cla T0 rfl rfl rfl rcA rfl) rfl rfl rfl ?_) | (show AWL _ _ _ (⟨_, .unOp .not _ _, _, _, _, _⟩ :: _) _ _ _; refine awl_pw ?wtq (pv_not rfl rfl) rfl rfl ?_)); case wtq => exact wtA))
  refine awl_hw wtA (st_call T0 (hH) rfl rfl rfl rfl (by first | exact callee_lit | exact callee_v | exact callee_fn | assumption) rcA raA rfl ?_)
  rintro _ rfl
  repeat (first | refine awp_seq ?_ | refine awp_region_lit rfl ?_ | refine awp_skip ?_ | with_reducible refine then_n ?_ | refine awp_cond_f rfl (by first | rfl | assumption | exact dF (by omega)) ?_ | ((first | (show AWL _ _ _ (⟨_, .move _, _, _, _, _⟩ :: _) _ _ _; refine awl_pw ?wtq (pv_move rfl rfl) rfl rfl ?_) | (show AWL _ _ _ (⟨_, .load _ _, _, _, _, _⟩ :: _) _ _ _; refine awl_lw ?wtq (lv_cla T0 rfl rfl rfl rcA rfl) rfl rfl rfl ?_) | (show AWL _ _ _ (⟨_, .unOp .not _ _, _, _, _, _⟩ :: _) _ _ _; refine awl_pw ?wtq (pv_not rfl rfl) rfl rfl ?_) | (show AWL _ _ _ (⟨_, .pick _ _ _, _, _, _, _⟩ :: _) _ _ _; refine awl_pw ?wtq (pv_pick_f rfl rfl tfA rfl) rfl rfl ?_)); case wtq => exact wtA) | refine awl_nil ?_)
  refine awl_hw wtA (st_call T0 (picked_p false false m ws hv e hwl' hw) rfl rfl rfl rfl (by first | exact callee_lit | exact callee_v | exact callee_fn | assumption) rcA raA rfl ?_)
  rintro r ⟨t, ht, rfl⟩
  repeat (first | refine awp_seq ?_ | refine awp_region_lit rfl ?_ | ((first | (show AWL _ _ _ (⟨_, .move _, _, _, _, _⟩ :: _) _ _ _; refine awl_pw ?wtq (pv_move rfl rfl) rfl rfl ?_) | (show AWL _ _ _ (⟨_, .assign _, _, _, _, _⟩ :: _) _ _ _; refine awl_pw ?wtq (pv_assign rfl rfl) rfl rfl ?_) | (show AWL _ _ _ (⟨_, .load _ _, _, _, _, _⟩ :: _) _ _ _; refine awl_lw ?wtq (lv_cl1 T0 rfl rfl rfl rcA raA) rfl rfl rfl ?_) | (show AWL _ _ _ (⟨_, .load _ _, _, _, _, _⟩ :: _) _ _ _; refine awl_lw ?wtq (lv_cla T0 rfl rfl rfl rcA rfl) rfl rfl rfl ?_) | (show AWL _ _ _ (⟨_, .fieldAddr _ _ _, _, _, _, _⟩ :: _) _ _ _; refine awl_pw ?wtq (pv_fa T0 rfl rfl rfl (by simp; rfl)) rfl rfl ?_) | (show AWL _ _ _ (⟨_, .binOp .rem _ _ _ _, _, _, _, _⟩ :: _) _ _ _; refine awl_pw ?wtq (pv_rem rfl rfl rfl (by omega) (by first | assumption | rfl)) rfl rfl ?_) | (show AWL _ _ _ (⟨_, .call ⟨.builtin .len, _, _⟩, _, _, _, _⟩ :: _) _ _ _; refine awl_pw ?wtq (pv_len_t T0 rfl rfl rfl) rfl rfl ?_) | (show AWL _ _ _ (⟨_, .convert 5 _ _, _, _, _, _⟩ :: _) _ _ _; refine awl_pw ?wtq (pv_convert rfl rfl Try.underlying5 Try.underlying3 (by first | assumption | exact wr64 (by omega))) rfl rfl ?_)); case wtq => exact wtA) | refine awl_nil ?_)
  refine awl_hw wtA (st_alloc T0 rfl rfl rfl rfl scA ?_)
  intro g9
  repeat (first | refine awp_seq ?_ | refine awp_region_lit rfl ?_ | (show AWL _ _ _ (⟨_, .store _ _ _, _, _, _, _⟩ :: _) _ _ _; refine awl_hw wtA (st_store T0 rfl rfl rfl rfl rfl (by first | assumption | (simp only [cellsA]; rfl)) rfl rfl rfl rcA rcA trivial ?_)) | refine awl_nil ?_)
  refine awl_hw wtA (st_bsl T0 rfl rfl rfl rfl rfl rcA rfl rfl rfl rfl (by simp only [List.map_cons, List.map_nil, cellsA]; rfl) ?_)
  intro g50
  repeat (first | ((first | (show AWL _ _ _ (⟨_, .load _ _, _, _, _, _⟩ :: _) _ _ _; refine awl_lw ?wtq (lv_cl1 T0 rfl rfl rfl rcA raA) rfl rfl rfl ?_) | (show AWL _ _ _ (⟨_, .fieldAddr _ _ _, _, _, _, _⟩ :: _) _ _ _; refine awl_pw ?wtq (pv_fa T0 rfl rfl rfl (by simp; rfl)) rfl rfl ?_)); case wtq => exact wtA))
  refine awl_hw wtA (st_appt T0 rfl rfl rfl rfl rfl rfl rfl rfl rfl rcA (by first | exact conOne _ | (intro k hk u hu; simp at hu; subst hu; rfl)) (rfl : ([] : List (List AV)).length = 0) (by first | omega | (simp; omega)) (fun _ _ => trivial) rfl ?_)
  intro a53 c53 p53
  simp only [List.nil_append, List.length_nil, Nat.zero_add, houRows_range]
  obtain ⟨ga, rfl⟩ := p53 (by omega)
  repeat (first | refine awp_seq ?_ | refine awp_region_lit rfl ?_ | ((first | (show AWL _ _ _ (⟨_, .move _, _, _, _, _⟩ :: _) _ _ _; refine awl_pw ?wtq (pv_move rfl rfl) rfl rfl ?_) | (show AWL _ _ _ (⟨_, .load _ _, _, _, _, _⟩ :: _) _ _ _; refine awl_lw ?wtq (lv_cl1 T0 rfl rfl rfl rcA raA) rfl rfl rfl ?_) | (show AWL _ _ _ (⟨_, .fieldAddr _ _ _, _, _, _, _⟩ :: _) _ _ _; refine awl_pw ?wtq (pv_fa T0 rfl rfl rfl (by simp; rfl)) rfl rfl ?_) | (show AWL _ _ _ (⟨_, .fieldAddr _ _ _, _, _, _, _⟩ :: _) _ _ _; refine awl_pw ?wtq (pv_fa_rp T0 rfl rfl rfl (by simp; rfl)) rfl rfl ?_) | (show AWL _ _ _ (⟨_, .indexAddr _ _ _, _, _, _, _⟩ :: _) _ _ _; refine awl_pw ?wtq (pv_ix_own T0 rfl rfl rfl rfl (by omega) ixA) rfl rfl ?_)); case wtq => exact wtA) | (show AWL _ _ _ (⟨_, .store _ _ _, _, _, _, _⟩ :: _) _ _ _; refine awl_hw wtA (st_store T0 rfl rfl rfl rfl rfl (by first | assumption | (simp only [cellsA]; rfl)) rfl rfl rfl rcA rcA trivial ?_)) | refine awl_nil ?_)
  refine awl_hw (wt_none rfl) (aop_store_rp (off := 2) (u := boolA false) T0 rfl rfl rfl rfl rfl rfl rfl rfl rcA (show i < (m.hou.map houRow).length by omega) (show 2 + 1 ≤ 4 by omega) hs1 trivial ?_)
  have htl := (truth_iff.1 ht).1
  have hfx := keep_fault hf hin
  have hkl : ∀ x ∈ [(i : Int)], 0 ≤ x := fun x hx => by rw [List.mem_singleton.1 hx]; omega
  have hvx := vmkt hfx
  have htx := keep_truth (m := m) hkl t
  have hpx := keep_poss hv hkl
  have hlo := keep_low hv hkl e
  have hhi := keep_high hv hkl e
  have hlh := low_high hvx (poss_ne hvx (by rw [hpx]; exact e))
  have hsh := keep_short hkl htl
  have hEm := fun (f : Int × Int → Int) => ess_mem (m := m) (f := f) (x := i) (k := m.hou.length)
  have hbk := bnd_eq (poss_ne hvx (by rw [hpx]; exact e))
  have hcorn := corn_one hf e hin
  rw [ht] at htx
  rw [e] at hpx
  have hsum := sums_p hv ht
  have hsumx := sums_p hvx htx
  have hsn := short_need htl
  have hxl : (keepM m [(i : Int)]).hou.length = m.hou.length := keep_len _ _
  have hsnx := short_need (m := keepM m [(i : Int)]) (t := t) (by rw [hxl]; exact htl)
  have hE := Essential_p true true m (by omega) (by omega)
  have hEl := ess_len m Prod.fst m.hou.length
  have hEl2 := ess_len m Prod.snd m.hou.length
  have hK := Corner_p true true m (by omega) (by omega)
  have hM := market_q false false m (by omega) (by omega)
  have hMx := market_q true false (keepM m [(i : Int)]) (by omega) (show m.con.length ≤ 1000 by omega)
  have hL := list_p true t (by omega)
  have hN := Needs_p true true true m t (by omega) (by omega) (by omega)
  have hNx := Needs_p true true true (keepM m [(i : Int)]) t (by omega) (show m.con.length ≤ 1000 by omega) (by omega)
  have hS := Shortage_p true true m (by omega) (by omega)
  have hSx := Shortage_p true true (keepM m [(i : Int)]) (by omega) (show m.con.length ≤ 1000 by omega)
  have hC := Cornered_p true true m (by omega) (by omega)
  have hCx := Cornered_p true true (keepM m [(i : Int)]) (by omega) (show m.con.length ≤ 1000 by omega)
  rw [needs_val hf ht] at hN
  rw [needs_val hfx htx] at hNx
  rw [asked_yes hf e] at hS hC
  rw [asked_yes hfx hpx] at hSx hCx
  have hEr : essR m = (essL m Prod.fst m.hou.length, essL m Prod.snd m.hou.length, 0) := by unfold essR; rw [if_neg (fun c => c (by rw [asked_yes hf e]))]
  rw [hEr] at hE
  have hE1 := hEm Prod.fst
  have hE2 := hEm Prod.snd
  rw [hbk] at hE1 hE2 hcorn
  obtain ⟨X, hX⟩ : ∃ X, X = m.hou.set i (noSell (m.hou.getD i default)) := ⟨_, rfl⟩
  have hkX : keepM m [(i : Int)] = ⟨m.ex, X, m.con⟩ := by rw [hX]; rfl
  have hkY : keepL m.hou [(i : Int)] = X := by rw [hX]; rfl
  simp only [hkX, hkY] at hxl hlo hhi hlh hsh hsumx hsnx hMx hNx hSx hCx hE1 hE2 hcorn
  rw [← hX]
  have hxl' : X.length = m.hou.length := hxl
  replace hN : PCall Try.prog 19 [mktA true true m, .t (intsT true t)] (fun r => r = .tup [.t (intsT true (needL m t m.hou.length)), .t (intsT true (spareL m t m.hou.length)), intA 0]) := hN
  replace hNx : PCall Try.prog 19 [mktA true true ⟨m.ex, X, m.con⟩, .t (intsT true t)] (fun r => r = .tup [.t (intsT true (needL ⟨m.ex, X, m.con⟩ t X.length)), .t (intsT true (spareL ⟨m.ex, X, m.con⟩ t X.length)), intA 0]) := hNx
  obtain ⟨hS1, hS2, hb1, hb2⟩ := hsum
  obtain ⟨hS3, hS4, hb3, hb4⟩ := hsumx
  replace hS3 : PCall Try.prog 46 [.t (intsT true (needL ⟨m.ex, X, m.con⟩ t X.length))] (fun r => r = intA (sumK (needL ⟨m.ex, X, m.con⟩ t X.length) X.length)) := hS3
  replace hS4 : PCall Try.prog 46 [.t (intsT true (spareL ⟨m.ex, X, m.con⟩ t X.length))] (fun r => r = intA (sumK (spareL ⟨m.ex, X, m.con⟩ t X.length) X.length)) := hS4
  have hdd : sumK (needL m t m.hou.length) m.hou.length - sumK (spareL m t m.hou.length) m.hou.length ≤ sumK (needL ⟨m.ex, X, m.con⟩ t X.length) X.length - sumK (spareL ⟨m.ex, X, m.con⟩ t X.length) X.length := by
    rw [hsn]
    have h2 : sumK (needL ⟨m.ex, X, m.con⟩ t X.length) X.length - sumK (spareL ⟨m.ex, X, m.con⟩ t X.length) X.length = shortT ⟨m.ex, X, m.con⟩ t := hsnx
    rw [h2]
    exact hsh
  have hb3' : -10000000 ≤ sumK (needL ⟨m.ex, X, m.con⟩ t X.length) X.length ∧ sumK (needL ⟨m.ex, X, m.con⟩ t X.length) X.length ≤ 10000000 := hb3
  have hb4' : -10000000 ≤ sumK (spareL ⟨m.ex, X, m.con⟩ t X.length) X.length ∧ sumK (spareL ⟨m.ex, X, m.con⟩ t X.length) X.length ≤ 10000000 := hb4
  clear hb3 hb4 hsn hsnx hsh hbk hkX hkY hX
  generalize needL m t m.hou.length = NL at *
  generalize spareL m t m.hou.length = SL at *
  generalize needL ⟨m.ex, X, m.con⟩ t X.length = NX at *
  generalize spareL ⟨m.ex, X, m.con⟩ t X.length = SX at *
  generalize sumK NL m.hou.length = n1 at *
  generalize sumK SL m.hou.length = n2 at *
  generalize sumK NX X.length = n3 at *
  generalize sumK SX X.length = n4 at *
  generalize lowN ⟨m.ex, X, m.con⟩ = L' at *
  generalize highN ⟨m.ex, X, m.con⟩ = H' at *
  generalize lowN m = L at *
  generalize highN m = H at *
  obtain ⟨A, hA⟩ : ∃ A, essL m Prod.fst m.hou.length = A := ⟨_, rfl⟩
  obtain ⟨ES, hESe⟩ : ∃ A, essL m Prod.snd m.hou.length = A := ⟨_, rfl⟩
  rw [hA] at hE hE1 hEl
  rw [hESe] at hE hE2 hEl2
  obtain ⟨cl, ce, hce⟩ : ∃ cl ce, cornR m = (cl, ce) := ⟨_, _, rfl⟩
  rw [hce] at hK hcorn
  replace hK : PCall Try.prog 35 [mktA true true m] (fun r => r = .tup [.t (intsT true cl), intA ce]) := hK
  replace hE : PCall Try.prog 34 [mktA true true m] (fun r => r = .tup [.t (intsT true A), .t (intsT true ES), intA 0]) := hE
  replace hS : PCall Try.prog 29 [mktA true true m] (fun r => r = .tup [.ag [intA L, intA H], intA 0]) := hS
  replace hSx : PCall Try.prog 29 [mktA true true ⟨m.ex, X, m.con⟩] (fun r => r = .tup [.ag [intA L', intA H'], intA 0]) := hSx
  replace hC : PCall Try.prog 31 [mktA true true m] (fun r => r = .tup [boolA (decide (0 < L)), boolA (decide (0 < H)), intA 0]) := hC
  replace hCx : PCall Try.prog 31 [mktA true true ⟨m.ex, X, m.con⟩] (fun r => r = .tup [boolA (decide (0 < L')), boolA (decide (0 < H')), intA 0]) := hCx
  have hAl : A.length ≤ 6 := by omega
  have hESl : ES.length ≤ 6 := by omega
  have hAm : decide ((i : Int) ∈ A) = ((m.hou.getD i default).sells && decide (0 < L')) := by
    rw [Bool.eq_iff_iff, decide_eq_true_eq, Bool.and_eq_true, decide_eq_true_eq, hE1]
    exact ⟨fun h => h.2, fun h => ⟨hin, h⟩⟩
  have hESm : decide ((i : Int) ∈ ES) = ((m.hou.getD i default).sells && decide (0 < H')) := by
    rw [Bool.eq_iff_iff, decide_eq_true_eq, Bool.and_eq_true, decide_eq_true_eq, hE2]
    exact ⟨fun h => h.2, fun h => ⟨hin, h⟩⟩
  have hco : decide ((i : Int) ∈ A) = true → ce = 0 ∧ cl.length ≤ 1 := fun h => by
    rw [hAm, Bool.and_eq_true, decide_eq_true_eq] at h
    obtain ⟨l, h1, h2⟩ := hcorn h.1 h.2
    cases h1
    exact ⟨rfl, h2⟩
  have hES : decide ((i : Int) ∈ A) = true → decide ((i : Int) ∈ ES) = true := fun h => by
    rw [hAm, Bool.and_eq_true, decide_eq_true_eq] at h
    rw [hESm, h.1, decide_eq_true (show 0 < H' by omega)]
    rfl
  have hh1 := has_p true A i (by omega)
  have hh2 := has_p true ES i (by omega)
  have k0 : decide (n3 - n4 < n1 - n2) = false := decide_eq_false (by omega)
  have k1 : decide (L' < L) = false := decide_eq_false (by omega)
  have k2 : decide (H' < H) = false := decide_eq_false (by omega)
  have hxr : (X.map houRow).length = m.hou.length := by rw [List.length_map, hxl']
  have htree := rows_tree (d := default) X houRow houL (fun _ => rfl)
  rw [hxl'] at htree
  refine awl_ghost (ghost_freeze_cell (g := g9) (j := 1) (v := .slice (some ⟨ga, 0, none⟩) m.hou.length c53) (E := 88) (sz := 4) (n := m.hou.length) (rows := X.map houRow) (fun q => houL (X.getD q default)) rcA rcA rfl rfl hxr htree) ?_
  rw [show Tr.sl true 4 m.hou.length (fun q => houL (X.getD q default)) = housT true X from by rw [← hxl']; rfl]
  clear hs1 hE1 hE2 hcorn hEm hA hESe hce hrows
  repeat (first | refine awp_seq ?_ | refine awp_region_lit rfl ?_ | ((first | (show AWL _ _ _ (⟨_, .load _ _, _, _, _, _⟩ :: _) _ _ _; refine awl_lw ?wtq (lv_cla T0 rfl rfl rfl rcA rfl) rfl rfl rfl ?_)); case wtq => exact wtA) | refine awl_nil ?_)
  refine awl_hw wtA (st_call T0 (hM) rfl rfl rfl rfl (by first | exact callee_lit | exact callee_v | exact callee_fn | assumption) rcA raA rfl ?_)
  rintro _ rfl
  repeat (first | ((first | (show AWL _ _ _ (⟨_, .move _, _, _, _, _⟩ :: _) _ _ _; refine awl_pw ?wtq (pv_move rfl rfl) rfl rfl ?_)); case wtq => exact wtA))
  refine awl_hw wtA (st_call T0 (hL) rfl rfl rfl rfl (by first | exact callee_lit | exact callee_v | exact callee_fn | assumption) rcA raA rfl ?_)
  rintro _ rfl
  skip
  refine awl_hw wtA (st_call T0 (hN) rfl rfl rfl rfl (by first | exact callee_lit | exact callee_v | exact callee_fn | assumption) rcA raA rfl ?_)
  rintro _ rfl
  repeat (first | refine awp_seq ?_ | refine awp_region_lit rfl ?_ | ((first | (show AWL _ _ _ (⟨_, .move _, _, _, _, _⟩ :: _) _ _ _; refine awl_pw ?wtq (pv_move rfl rfl) rfl rfl ?_) | (show AWL _ _ _ (⟨_, .assign _, _, _, _, _⟩ :: _) _ _ _; refine awl_pw ?wtq (pv_assign rfl rfl) rfl rfl ?_) | (show AWL _ _ _ (⟨_, .load _ _, _, _, _, _⟩ :: _) _ _ _; refine awl_lw ?wtq (lv_cla T0 rfl rfl rfl rcA rfl) rfl rfl rfl ?_) | (show AWL _ _ _ (⟨_, .extract _ _, _, _, _, _⟩ :: _) _ _ _; refine awl_pw ?wtq (pv_extract rfl rfl rfl) rfl rfl ?_)); case wtq => exact wtA) | refine awl_nil ?_)
  refine awl_hw wtA (st_call T0 (hMx) rfl rfl rfl rfl (by first | exact callee_lit | exact callee_v | exact callee_fn | assumption) rcA raA rfl ?_)
  rintro _ rfl
  repeat (first | ((first | (show AWL _ _ _ (⟨_, .move _, _, _, _, _⟩ :: _) _ _ _; refine awl_pw ?wtq (pv_move rfl rfl) rfl rfl ?_)); case wtq => exact wtA))
  refine awl_hw wtA (st_call T0 (hL) rfl rfl rfl rfl (by first | exact callee_lit | exact callee_v | exact callee_fn | assumption) rcA raA rfl ?_)
  rintro _ rfl
  skip
  refine awl_hw wtA (st_call T0 (hNx) rfl rfl rfl rfl (by first | exact callee_lit | exact callee_v | exact callee_fn | assumption) rcA raA rfl ?_)
  rintro _ rfl
  repeat (first | refine awp_seq ?_ | refine awp_region_lit rfl ?_ | ((first | (show AWL _ _ _ (⟨_, .move _, _, _, _, _⟩ :: _) _ _ _; refine awl_pw ?wtq (pv_move rfl rfl) rfl rfl ?_) | (show AWL _ _ _ (⟨_, .assign _, _, _, _, _⟩ :: _) _ _ _; refine awl_pw ?wtq (pv_assign rfl rfl) rfl rfl ?_) | (show AWL _ _ _ (⟨_, .load _ _, _, _, _, _⟩ :: _) _ _ _; refine awl_lw ?wtq (lv_cla T0 rfl rfl rfl rcA rfl) rfl rfl rfl ?_) | (show AWL _ _ _ (⟨_, .extract _ _, _, _, _, _⟩ :: _) _ _ _; refine awl_pw ?wtq (pv_extract rfl rfl rfl) rfl rfl ?_)); case wtq => exact wtA) | refine awl_nil ?_)
  refine awl_hw wtA (st_call T0 (hM) rfl rfl rfl rfl (by first | exact callee_lit | exact callee_v | exact callee_fn | assumption) rcA raA rfl ?_)
  rintro _ rfl
  skip
  refine awl_hw wtA (st_call T0 (hS) rfl rfl rfl rfl (by first | exact callee_lit | exact callee_v | exact callee_fn | assumption) rcA raA rfl ?_)
  rintro _ rfl
  repeat (first | ((first | (show AWL _ _ _ (⟨_, .move _, _, _, _, _⟩ :: _) _ _ _; refine awl_pw ?wtq (pv_move rfl rfl) rfl rfl ?_) | (show AWL _ _ _ (⟨_, .extract _ _, _, _, _, _⟩ :: _) _ _ _; refine awl_pw ?wtq (pv_extract rfl rfl rfl) rfl rfl ?_)); case wtq => exact wtA))
  refine awl_hw wtA (st_alloc T0 rfl rfl rfl rfl scA ?_)
  intro g16
  repeat (first | refine awp_seq ?_ | refine awp_region_lit rfl ?_ | ((first | (show AWL _ _ _ (⟨_, .assign _, _, _, _, _⟩ :: _) _ _ _; refine awl_pw ?wtq (pv_assign rfl rfl) rfl rfl ?_) | (show AWL _ _ _ (⟨_, .load _ _, _, _, _, _⟩ :: _) _ _ _; refine awl_lw ?wtq (lv_cla T0 rfl rfl rfl rcA rfl) rfl rfl rfl ?_)); case wtq => exact wtA) | (show AWL _ _ _ (⟨_, .store _ _ _, _, _, _, _⟩ :: _) _ _ _; refine awl_hw wtA (st_store T0 rfl rfl rfl rfl rfl (by first | assumption | (simp only [cellsA]; rfl)) rfl rfl rfl rcA rcA trivial ?_)) | refine awl_nil ?_)
  refine awl_hw wtA (st_call T0 (hMx) rfl rfl rfl rfl (by first | exact callee_lit | exact callee_v | exact callee_fn | assumption) rcA raA rfl ?_)
  rintro _ rfl
  skip
  refine awl_hw wtA (st_call T0 (hSx) rfl rfl rfl rfl (by first | exact callee_lit | exact callee_v | exact callee_fn | assumption) rcA raA rfl ?_)
  rintro _ rfl
  repeat (first | ((first | (show AWL _ _ _ (⟨_, .move _, _, _, _, _⟩ :: _) _ _ _; refine awl_pw ?wtq (pv_move rfl rfl) rfl rfl ?_) | (show AWL _ _ _ (⟨_, .extract _ _, _, _, _, _⟩ :: _) _ _ _; refine awl_pw ?wtq (pv_extract rfl rfl rfl) rfl rfl ?_)); case wtq => exact wtA))
  refine awl_hw wtA (st_alloc T0 rfl rfl rfl rfl scA ?_)
  intro g18
  repeat (first | refine awp_seq ?_ | refine awp_region_lit rfl ?_ | ((first | (show AWL _ _ _ (⟨_, .assign _, _, _, _, _⟩ :: _) _ _ _; refine awl_pw ?wtq (pv_assign rfl rfl) rfl rfl ?_) | (show AWL _ _ _ (⟨_, .load _ _, _, _, _, _⟩ :: _) _ _ _; refine awl_lw ?wtq (lv_cla T0 rfl rfl rfl rcA rfl) rfl rfl rfl ?_)); case wtq => exact wtA) | (show AWL _ _ _ (⟨_, .store _ _ _, _, _, _, _⟩ :: _) _ _ _; refine awl_hw wtA (st_store T0 rfl rfl rfl rfl rfl (by first | assumption | (simp only [cellsA]; rfl)) rfl rfl rfl rcA rcA trivial ?_)) | refine awl_nil ?_)
  refine awl_hw wtA (st_call T0 (hM) rfl rfl rfl rfl (by first | exact callee_lit | exact callee_v | exact callee_fn | assumption) rcA raA rfl ?_)
  rintro _ rfl
  skip
  refine awl_hw wtA (st_call T0 (hC) rfl rfl rfl rfl (by first | exact callee_lit | exact callee_v | exact callee_fn | assumption) rcA raA rfl ?_)
  rintro _ rfl
  repeat (first | refine awp_seq ?_ | refine awp_region_lit rfl ?_ | ((first | (show AWL _ _ _ (⟨_, .move _, _, _, _, _⟩ :: _) _ _ _; refine awl_pw ?wtq (pv_move rfl rfl) rfl rfl ?_) | (show AWL _ _ _ (⟨_, .assign _, _, _, _, _⟩ :: _) _ _ _; refine awl_pw ?wtq (pv_assign rfl rfl) rfl rfl ?_) | (show AWL _ _ _ (⟨_, .load _ _, _, _, _, _⟩ :: _) _ _ _; refine awl_lw ?wtq (lv_cla T0 rfl rfl rfl rcA rfl) rfl rfl rfl ?_) | (show AWL _ _ _ (⟨_, .extract _ _, _, _, _, _⟩ :: _) _ _ _; refine awl_pw ?wtq (pv_extract rfl rfl rfl) rfl rfl ?_)); case wtq => exact wtA) | refine awl_nil ?_)
  refine awl_hw wtA (st_call T0 (hMx) rfl rfl rfl rfl (by first | exact callee_lit | exact callee_v | exact callee_fn | assumption) rcA raA rfl ?_)
  rintro _ rfl
  skip
  refine awl_hw wtA (st_call T0 (hCx) rfl rfl rfl rfl (by first | exact callee_lit | exact callee_v | exact callee_fn | assumption) rcA raA rfl ?_)
  rintro _ rfl
  repeat (first | refine awp_seq ?_ | refine awp_region_lit rfl ?_ | ((first | (show AWL _ _ _ (⟨_, .move _, _, _, _, _⟩ :: _) _ _ _; refine awl_pw ?wtq (pv_move rfl rfl) rfl rfl ?_) | (show AWL _ _ _ (⟨_, .assign _, _, _, _, _⟩ :: _) _ _ _; refine awl_pw ?wtq (pv_assign rfl rfl) rfl rfl ?_) | (show AWL _ _ _ (⟨_, .load _ _, _, _, _, _⟩ :: _) _ _ _; refine awl_lw ?wtq (lv_cla T0 rfl rfl rfl rcA rfl) rfl rfl rfl ?_) | (show AWL _ _ _ (⟨_, .extract _ _, _, _, _, _⟩ :: _) _ _ _; refine awl_pw ?wtq (pv_extract rfl rfl rfl) rfl rfl ?_)); case wtq => exact wtA) | refine awl_nil ?_)
  refine awl_hw wtA (st_call T0 (hM) rfl rfl rfl rfl (by first | exact callee_lit | exact callee_v | exact callee_fn | assumption) rcA raA rfl ?_)
  rintro _ rfl
  skip
  refine awl_hw wtA (st_call T0 (hE) rfl rfl rfl rfl (by first | exact callee_lit | exact callee_v | exact callee_fn | assumption) rcA raA rfl ?_)
  rintro _ rfl
  repeat (first | refine awp_seq ?_ | refine awp_region_lit rfl ?_ | ((first | (show AWL _ _ _ (⟨_, .move _, _, _, _, _⟩ :: _) _ _ _; refine awl_pw ?wtq (pv_move rfl rfl) rfl rfl ?_) | (show AWL _ _ _ (⟨_, .assign _, _, _, _, _⟩ :: _) _ _ _; refine awl_pw ?wtq (pv_assign rfl rfl) rfl rfl ?_) | (show AWL _ _ _ (⟨_, .load _ _, _, _, _, _⟩ :: _) _ _ _; refine awl_lw ?wtq (lv_cla T0 rfl rfl rfl rcA rfl) rfl rfl rfl ?_) | (show AWL _ _ _ (⟨_, .extract _ _, _, _, _, _⟩ :: _) _ _ _; refine awl_pw ?wtq (pv_extract rfl rfl rfl) rfl rfl ?_)); case wtq => exact wtA) | refine awl_nil ?_)
  refine awl_hw wtA (st_call T0 (hM) rfl rfl rfl rfl (by first | exact callee_lit | exact callee_v | exact callee_fn | assumption) rcA raA rfl ?_)
  rintro _ rfl
  skip
  refine awl_hw wtA (st_call T0 (hK) rfl rfl rfl rfl (by first | exact callee_lit | exact callee_v | exact callee_fn | assumption) rcA raA rfl ?_)
  rintro _ rfl
  by_cases p1 : 0 < L
  · have k3 := decide_eq_true p1
    have k4n : (!decide (0 < L')) = false := by rw [decide_eq_true (show 0 < L' by omega)]; rfl
    by_cases p2 : 0 < H
    · have k5 := decide_eq_true p2
      have k6n : (!decide (0 < H')) = false := by rw [decide_eq_true (show 0 < H' by omega)]; rfl
      repeat (first | refine awp_seq ?_ | refine awp_region_lit rfl ?_ | ((first | (show AWL _ _ _ (⟨_, .move _, _, _, _, _⟩ :: _) _ _ _; refine awl_pw ?wtq (pv_move rfl rfl) rfl rfl ?_) | (show AWL _ _ _ (⟨_, .assign _, _, _, _, _⟩ :: _) _ _ _; refine awl_pw ?wtq (pv_assign rfl rfl) rfl rfl ?_) | (show AWL _ _ _ (⟨_, .binOp .neq _ _ _ _, _, _, _, _⟩ :: _) _ _ _; refine awl_pw ?wtq (pv_neq rfl rfl rfl) rfl rfl ?_) | (show AWL _ _ _ (⟨_, .extract _ _, _, _, _, _⟩ :: _) _ _ _; refine awl_pw ?wtq (pv_extract rfl rfl rfl) rfl rfl ?_) | (show AWL _ _ _ (⟨_, .pick _ _ _, _, _, _, _⟩ :: _) _ _ _; refine awl_pw ?wtq (pv_pick_f rfl rfl tfA rfl) rfl rfl ?_)); case wtq => exact wtA) | refine awl_nil ?_)
      refine awl_hw wtA (st_call T0 (hS3) rfl rfl rfl rfl (by first | exact callee_lit | exact callee_v | exact callee_fn | assumption) rcA raA rfl ?_)
      rintro _ rfl
      repeat (first | ((first | (show AWL _ _ _ (⟨_, .move _, _, _, _, _⟩ :: _) _ _ _; refine awl_pw ?wtq (pv_move rfl rfl) rfl rfl ?_)); case wtq => exact wtA))
      refine awl_hw wtA (st_call T0 (hS4) rfl rfl rfl rfl (by first | exact callee_lit | exact callee_v | exact callee_fn | assumption) rcA raA rfl ?_)
      rintro _ rfl
      repeat (first | ((first | (show AWL _ _ _ (⟨_, .move _, _, _, _, _⟩ :: _) _ _ _; refine awl_pw ?wtq (pv_move rfl rfl) rfl rfl ?_) | (show AWL _ _ _ (⟨_, .binOp .sub _ _ _ _, _, _, _, _⟩ :: _) _ _ _; refine awl_pw ?wtq (pv_sub rfl rfl rfl (by first | assumption | exact wr64 (by omega))) rfl rfl ?_)); case wtq => exact wtA))
      refine awl_hw wtA (st_call T0 (hS1) rfl rfl rfl rfl (by first | exact callee_lit | exact callee_v | exact callee_fn | assumption) rcA raA rfl ?_)
      rintro _ rfl
      repeat (first | ((first | (show AWL _ _ _ (⟨_, .move _, _, _, _, _⟩ :: _) _ _ _; refine awl_pw ?wtq (pv_move rfl rfl) rfl rfl ?_)); case wtq => exact wtA))
      refine awl_hw wtA (st_call T0 (hS2) rfl rfl rfl rfl (by first | exact callee_lit | exact callee_v | exact callee_fn | assumption) rcA raA rfl ?_)
      rintro _ rfl
      repeat (first | refine awp_seq ?_ | refine awp_skip ?_ | with_reducible refine then_n ?_ | refine awp_cond_f rfl (by first | rfl | assumption | exact dF (by omega)) ?_ | ((first | (show AWL _ _ _ (⟨_, .move _, _, _, _, _⟩ :: _) _ _ _; refine awl_pw ?wtq (pv_move rfl rfl) rfl rfl ?_) | (show AWL _ _ _ (⟨_, .load _ _, _, _, _, _⟩ :: _) _ _ _; refine awl_lw ?wtq (lv_cl1 T0 rfl rfl rfl rcA raA) rfl rfl rfl ?_) | (show AWL _ _ _ (⟨_, .fieldAddr _ _ _, _, _, _, _⟩ :: _) _ _ _; refine awl_pw ?wtq (pv_fa T0 rfl rfl rfl (by simp; rfl)) rfl rfl ?_) | (show AWL _ _ _ (⟨_, .binOp .sub _ _ _ _, _, _, _, _⟩ :: _) _ _ _; refine awl_pw ?wtq (pv_sub rfl rfl rfl (by first | assumption | exact wr64 (by omega))) rfl rfl ?_) | (show AWL _ _ _ (⟨_, .binOp .lss _ _ _ _, _, _, _, _⟩ :: _) _ _ _; refine awl_pw ?wtq (pv_lss rfl rfl rfl) rfl rfl ?_) | (show AWL _ _ _ (⟨_, .unOp .not _ _, _, _, _, _⟩ :: _) _ _ _; refine awl_pw ?wtq (pv_not rfl rfl) rfl rfl ?_) | (show AWL _ _ _ (⟨_, .pick _ _ _, _, _, _, _⟩ :: _) _ _ _; refine awl_pw ?wtq (pv_pick_t rfl rfl tfA rfl) rfl rfl ?_) | (show AWL _ _ _ (⟨_, .pick _ _ _, _, _, _, _⟩ :: _) _ _ _; refine awl_pw ?wtq (pv_pick_f rfl rfl tfA rfl) rfl rfl ?_)); case wtq => exact wtA) | refine awl_nil ?_)
      refine awp_cut _ (awp_weak ssA rcA (lm_18 (g3 := g3) (i := i) (m := m) (A := A) (S := ES) (still := decide (0 < L')) (can := decide (0 < H')) (u29 := .t (intsT true cl)) (u30 := intA ce) hin hlen hAl hESl hAm hESm rfl)) ?_
      rintro s h ⟨rfl, rfl⟩
      cases hAi : decide ((i : Int) ∈ A)
      · rw [hAi] at hh1
        repeat (first | refine awp_seq ?_ | refine awp_region_lit rfl ?_ | refine awp_skip ?_ | refine awp_cond_f rfl (by first | rfl | assumption | exact dF (by omega)) ?_ | ((first | (show AWL _ _ _ (⟨_, .move _, _, _, _, _⟩ :: _) _ _ _; refine awl_pw ?wtq (pv_move rfl rfl) rfl rfl ?_)); case wtq => exact wtA))
        refine awl_hw wtA (st_call T0 (hh1) rfl rfl rfl rfl (by first | exact callee_lit | exact callee_v | exact callee_fn | assumption) rcA raA rfl ?_)
        rintro _ rfl
        repeat (first | ((first | (show AWL _ _ _ (⟨_, .move _, _, _, _, _⟩ :: _) _ _ _; refine awl_pw ?wtq (pv_move rfl rfl) rfl rfl ?_) | (show AWL _ _ _ (⟨_, .unOp .not _ _, _, _, _, _⟩ :: _) _ _ _; refine awl_pw ?wtq (pv_not rfl rfl) rfl rfl ?_) | (show AWL _ _ _ (⟨_, .pick _ _ _, _, _, _, _⟩ :: _) _ _ _; refine awl_pw ?wtq (pv_pick_t rfl rfl tfA rfl) rfl rfl ?_)); case wtq => exact wtA) | refine awl_sk (wf_some rfl rfl rfl rfl tfA) rfl rfl ?_ | refine awl_sku (wu_some rfl rfl rfl rfl) rfl rfl ?_)
        refine awl_hw wtA (st_call T0 (awake_p) rfl rfl rfl rfl (by first | exact callee_lit | exact callee_v | exact callee_fn | assumption) rcA raA rfl ?_)
        rintro _ rfl
        repeat (first | refine awp_ret ?_ | ((first | (show AWL _ _ _ (⟨_, .assign _, _, _, _, _⟩ :: _) _ _ _; refine awl_pw ?wtq (pv_assign rfl rfl) rfl rfl ?_) | (show AWL _ _ _ (⟨_, .pick _ _ _, _, _, _, _⟩ :: _) _ _ _; refine awl_pw ?wtq (pv_pick_t rfl rfl tfA rfl) rfl rfl ?_)); case wtq => exact wtA) | refine awl_nil ?_)
        exact body_p (.cons rfl .nil) rfl
      · rw [hAi] at hh1
        obtain ⟨rfl, hcl⟩ := hco hAi
        have hES1 := hES hAi
        rw [hES1] at hh2
        have kcl : decide ((cl.length : Int) ≤ 1) = true := decide_eq_true (by omega)
        repeat (first | refine awp_seq ?_ | refine awp_region_lit rfl ?_ | refine awp_skip ?_ | refine awp_cond_f rfl (by first | rfl | assumption | exact dF (by omega)) ?_ | ((first | (show AWL _ _ _ (⟨_, .move _, _, _, _, _⟩ :: _) _ _ _; refine awl_pw ?wtq (pv_move rfl rfl) rfl rfl ?_)); case wtq => exact wtA))
        refine awl_hw wtA (st_call T0 (hh1) rfl rfl rfl rfl (by first | exact callee_lit | exact callee_v | exact callee_fn | assumption) rcA raA rfl ?_)
        rintro _ rfl
        repeat (first | ((first | (show AWL _ _ _ (⟨_, .move _, _, _, _, _⟩ :: _) _ _ _; refine awl_pw ?wtq (pv_move rfl rfl) rfl rfl ?_) | (show AWL _ _ _ (⟨_, .unOp .not _ _, _, _, _, _⟩ :: _) _ _ _; refine awl_pw ?wtq (pv_not rfl rfl) rfl rfl ?_)); case wtq => exact wtA))
        refine awl_hw wtA (st_call T0 (hh2) rfl rfl rfl rfl (by first | exact callee_lit | exact callee_v | exact callee_fn | assumption) rcA raA rfl ?_)
        rintro _ rfl
        repeat (first | ((first | (show AWL _ _ _ (⟨_, .move _, _, _, _, _⟩ :: _) _ _ _; refine awl_pw ?wtq (pv_move rfl rfl) rfl rfl ?_) | (show AWL _ _ _ (⟨_, .binOp .leq _ _ _ _, _, _, _, _⟩ :: _) _ _ _; refine awl_pw ?wtq (pv_leq rfl rfl rfl) rfl rfl ?_) | (show AWL _ _ _ (⟨_, .binOp .eql _ _ _ _, _, _, _, _⟩ :: _) _ _ _; refine awl_pw ?wtq (pv_eql rfl rfl rfl) rfl rfl ?_) | (show AWL _ _ _ (⟨_, .call ⟨.builtin .len, _, _⟩, _, _, _, _⟩ :: _) _ _ _; refine awl_pw ?wtq (pv_len_t T0 rfl rfl rfl) rfl rfl ?_) | (show AWL _ _ _ (⟨_, .pick _ _ _, _, _, _, _⟩ :: _) _ _ _; refine awl_pw ?wtq (pv_pick_t rfl rfl tfA rfl) rfl rfl ?_) | (show AWL _ _ _ (⟨_, .pick _ _ _, _, _, _, _⟩ :: _) _ _ _; refine awl_pw ?wtq (pv_pick_f rfl rfl tfA rfl) rfl rfl ?_)); case wtq => exact wtA))
        refine awl_hw wtA (st_call T0 (awake_p) rfl rfl rfl rfl (by first | exact callee_lit | exact callee_v | exact callee_fn | assumption) rcA raA rfl ?_)
        rintro _ rfl
        repeat (first | refine awp_ret ?_ | ((first | (show AWL _ _ _ (⟨_, .assign _, _, _, _, _⟩ :: _) _ _ _; refine awl_pw ?wtq (pv_assign rfl rfl) rfl rfl ?_) | (show AWL _ _ _ (⟨_, .pick _ _ _, _, _, _, _⟩ :: _) _ _ _; refine awl_pw ?wtq (pv_pick_t rfl rfl tfA rfl) rfl rfl ?_)); case wtq => exact wtA) | refine awl_nil ?_)
        exact body_p (.cons rfl .nil) rfl
    · have k5 := decide_eq_false p2
      repeat (first | refine awp_seq ?_ | refine awp_region_lit rfl ?_ | ((first | (show AWL _ _ _ (⟨_, .move _, _, _, _, _⟩ :: _) _ _ _; refine awl_pw ?wtq (pv_move rfl rfl) rfl rfl ?_) | (show AWL _ _ _ (⟨_, .assign _, _, _, _, _⟩ :: _) _ _ _; refine awl_pw ?wtq (pv_assign rfl rfl) rfl rfl ?_) | (show AWL _ _ _ (⟨_, .binOp .neq _ _ _ _, _, _, _, _⟩ :: _) _ _ _; refine awl_pw ?wtq (pv_neq rfl rfl rfl) rfl rfl ?_) | (show AWL _ _ _ (⟨_, .extract _ _, _, _, _, _⟩ :: _) _ _ _; refine awl_pw ?wtq (pv_extract rfl rfl rfl) rfl rfl ?_) | (show AWL _ _ _ (⟨_, .pick _ _ _, _, _, _, _⟩ :: _) _ _ _; refine awl_pw ?wtq (pv_pick_f rfl rfl tfA rfl) rfl rfl ?_)); case wtq => exact wtA) | refine awl_nil ?_)
      refine awl_hw wtA (st_call T0 (hS3) rfl rfl rfl rfl (by first | exact callee_lit | exact callee_v | exact callee_fn | assumption) rcA raA rfl ?_)
      rintro _ rfl
      repeat (first | ((first | (show AWL _ _ _ (⟨_, .move _, _, _, _, _⟩ :: _) _ _ _; refine awl_pw ?wtq (pv_move rfl rfl) rfl rfl ?_)); case wtq => exact wtA))
      refine awl_hw wtA (st_call T0 (hS4) rfl rfl rfl rfl (by first | exact callee_lit | exact callee_v | exact callee_fn | assumption) rcA raA rfl ?_)
      rintro _ rfl
      repeat (first | ((first | (show AWL _ _ _ (⟨_, .move _, _, _, _, _⟩ :: _) _ _ _; refine awl_pw ?wtq (pv_move rfl rfl) rfl rfl ?_) | (show AWL _ _ _ (⟨_, .binOp .sub _ _ _ _, _, _, _, _⟩ :: _) _ _ _; refine awl_pw ?wtq (pv_sub rfl rfl rfl (by first | assumption | exact wr64 (by omega))) rfl rfl ?_)); case wtq => exact wtA))
      refine awl_hw wtA (st_call T0 (hS1) rfl rfl rfl rfl (by first | exact callee_lit | exact callee_v | exact callee_fn | assumption) rcA raA rfl ?_)
      rintro _ rfl
      repeat (first | ((first | (show AWL _ _ _ (⟨_, .move _, _, _, _, _⟩ :: _) _ _ _; refine awl_pw ?wtq (pv_move rfl rfl) rfl rfl ?_)); case wtq => exact wtA))
      refine awl_hw wtA (st_call T0 (hS2) rfl rfl rfl rfl (by first | exact callee_lit | exact callee_v | exact callee_fn | assumption) rcA raA rfl ?_)
      rintro _ rfl
      repeat (first | refine awp_seq ?_ | refine awp_skip ?_ | with_reducible refine then_n ?_ | refine awp_cond_f rfl (by first | rfl | assumption | exact dF (by omega)) ?_ | ((first | (show AWL _ _ _ (⟨_, .move _, _, _, _, _⟩ :: _) _ _ _; refine awl_pw ?wtq (pv_move rfl rfl) rfl rfl ?_) | (show AWL _ _ _ (⟨_, .load _ _, _, _, _, _⟩ :: _) _ _ _; refine awl_lw ?wtq (lv_cl1 T0 rfl rfl rfl rcA raA) rfl rfl rfl ?_) | (show AWL _ _ _ (⟨_, .fieldAddr _ _ _, _, _, _, _⟩ :: _) _ _ _; refine awl_pw ?wtq (pv_fa T0 rfl rfl rfl (by simp; rfl)) rfl rfl ?_) | (show AWL _ _ _ (⟨_, .binOp .sub _ _ _ _, _, _, _, _⟩ :: _) _ _ _; refine awl_pw ?wtq (pv_sub rfl rfl rfl (by first | assumption | exact wr64 (by omega))) rfl rfl ?_) | (show AWL _ _ _ (⟨_, .binOp .lss _ _ _ _, _, _, _, _⟩ :: _) _ _ _; refine awl_pw ?wtq (pv_lss rfl rfl rfl) rfl rfl ?_) | (show AWL _ _ _ (⟨_, .unOp .not _ _, _, _, _, _⟩ :: _) _ _ _; refine awl_pw ?wtq (pv_not rfl rfl) rfl rfl ?_) | (show AWL _ _ _ (⟨_, .pick _ _ _, _, _, _, _⟩ :: _) _ _ _; refine awl_pw ?wtq (pv_pick_t rfl rfl tfA rfl) rfl rfl ?_) | (show AWL _ _ _ (⟨_, .pick _ _ _, _, _, _, _⟩ :: _) _ _ _; refine awl_pw ?wtq (pv_pick_f rfl rfl tfA rfl) rfl rfl ?_)); case wtq => exact wtA) | refine awl_sk (wf_some rfl rfl rfl rfl tfA) rfl rfl ?_ | refine awl_nil ?_)
      refine awp_cut _ (awp_weak ssA rcA (lm_18 (g3 := g3) (i := i) (m := m) (A := A) (S := ES) (still := decide (0 < L')) (can := decide (0 < H')) (u29 := .t (intsT true cl)) (u30 := intA ce) hin hlen hAl hESl hAm hESm rfl)) ?_
      rintro s h ⟨rfl, rfl⟩
      cases hAi : decide ((i : Int) ∈ A)
      · rw [hAi] at hh1
        repeat (first | refine awp_seq ?_ | refine awp_region_lit rfl ?_ | refine awp_skip ?_ | refine awp_cond_f rfl (by first | rfl | assumption | exact dF (by omega)) ?_ | ((first | (show AWL _ _ _ (⟨_, .move _, _, _, _, _⟩ :: _) _ _ _; refine awl_pw ?wtq (pv_move rfl rfl) rfl rfl ?_)); case wtq => exact wtA))
        refine awl_hw wtA (st_call T0 (hh1) rfl rfl rfl rfl (by first | exact callee_lit | exact callee_v | exact callee_fn | assumption) rcA raA rfl ?_)
        rintro _ rfl
        repeat (first | ((first | (show AWL _ _ _ (⟨_, .move _, _, _, _, _⟩ :: _) _ _ _; refine awl_pw ?wtq (pv_move rfl rfl) rfl rfl ?_) | (show AWL _ _ _ (⟨_, .unOp .not _ _, _, _, _, _⟩ :: _) _ _ _; refine awl_pw ?wtq (pv_not rfl rfl) rfl rfl ?_) | (show AWL _ _ _ (⟨_, .pick _ _ _, _, _, _, _⟩ :: _) _ _ _; refine awl_pw ?wtq (pv_pick_t rfl rfl tfA rfl) rfl rfl ?_)); case wtq => exact wtA) | refine awl_sk (wf_some rfl rfl rfl rfl tfA) rfl rfl ?_ | refine awl_sku (wu_some rfl rfl rfl rfl) rfl rfl ?_)
        refine awl_hw wtA (st_call T0 (awake_p) rfl rfl rfl rfl (by first | exact callee_lit | exact callee_v | exact callee_fn | assumption) rcA raA rfl ?_)
        rintro _ rfl
        repeat (first | refine awp_ret ?_ | ((first | (show AWL _ _ _ (⟨_, .assign _, _, _, _, _⟩ :: _) _ _ _; refine awl_pw ?wtq (pv_assign rfl rfl) rfl rfl ?_) | (show AWL _ _ _ (⟨_, .pick _ _ _, _, _, _, _⟩ :: _) _ _ _; refine awl_pw ?wtq (pv_pick_t rfl rfl tfA rfl) rfl rfl ?_)); case wtq => exact wtA) | refine awl_nil ?_)
        exact body_p (.cons rfl .nil) rfl
      · rw [hAi] at hh1
        obtain ⟨rfl, hcl⟩ := hco hAi
        have hES1 := hES hAi
        rw [hES1] at hh2
        have kcl : decide ((cl.length : Int) ≤ 1) = true := decide_eq_true (by omega)
        repeat (first | refine awp_seq ?_ | refine awp_region_lit rfl ?_ | refine awp_skip ?_ | refine awp_cond_f rfl (by first | rfl | assumption | exact dF (by omega)) ?_ | ((first | (show AWL _ _ _ (⟨_, .move _, _, _, _, _⟩ :: _) _ _ _; refine awl_pw ?wtq (pv_move rfl rfl) rfl rfl ?_)); case wtq => exact wtA))
        refine awl_hw wtA (st_call T0 (hh1) rfl rfl rfl rfl (by first | exact callee_lit | exact callee_v | exact callee_fn | assumption) rcA raA rfl ?_)
        rintro _ rfl
        repeat (first | ((first | (show AWL _ _ _ (⟨_, .move _, _, _, _, _⟩ :: _) _ _ _; refine awl_pw ?wtq (pv_move rfl rfl) rfl rfl ?_) | (show AWL _ _ _ (⟨_, .unOp .not _ _, _, _, _, _⟩ :: _) _ _ _; refine awl_pw ?wtq (pv_not rfl rfl) rfl rfl ?_)); case wtq => exact wtA))
        refine awl_hw wtA (st_call T0 (hh2) rfl rfl rfl rfl (by first | exact callee_lit | exact callee_v | exact callee_fn | assumption) rcA raA rfl ?_)
        rintro _ rfl
        repeat (first | ((first | (show AWL _ _ _ (⟨_, .move _, _, _, _, _⟩ :: _) _ _ _; refine awl_pw ?wtq (pv_move rfl rfl) rfl rfl ?_) | (show AWL _ _ _ (⟨_, .binOp .leq _ _ _ _, _, _, _, _⟩ :: _) _ _ _; refine awl_pw ?wtq (pv_leq rfl rfl rfl) rfl rfl ?_) | (show AWL _ _ _ (⟨_, .binOp .eql _ _ _ _, _, _, _, _⟩ :: _) _ _ _; refine awl_pw ?wtq (pv_eql rfl rfl rfl) rfl rfl ?_) | (show AWL _ _ _ (⟨_, .call ⟨.builtin .len, _, _⟩, _, _, _, _⟩ :: _) _ _ _; refine awl_pw ?wtq (pv_len_t T0 rfl rfl rfl) rfl rfl ?_) | (show AWL _ _ _ (⟨_, .pick _ _ _, _, _, _, _⟩ :: _) _ _ _; refine awl_pw ?wtq (pv_pick_t rfl rfl tfA rfl) rfl rfl ?_) | (show AWL _ _ _ (⟨_, .pick _ _ _, _, _, _, _⟩ :: _) _ _ _; refine awl_pw ?wtq (pv_pick_f rfl rfl tfA rfl) rfl rfl ?_)); case wtq => exact wtA))
        refine awl_hw wtA (st_call T0 (awake_p) rfl rfl rfl rfl (by first | exact callee_lit | exact callee_v | exact callee_fn | assumption) rcA raA rfl ?_)
        rintro _ rfl
        repeat (first | refine awp_ret ?_ | ((first | (show AWL _ _ _ (⟨_, .assign _, _, _, _, _⟩ :: _) _ _ _; refine awl_pw ?wtq (pv_assign rfl rfl) rfl rfl ?_) | (show AWL _ _ _ (⟨_, .pick _ _ _, _, _, _, _⟩ :: _) _ _ _; refine awl_pw ?wtq (pv_pick_t rfl rfl tfA rfl) rfl rfl ?_)); case wtq => exact wtA) | refine awl_nil ?_)
        exact body_p (.cons rfl .nil) rfl
  · have k3 := decide_eq_false p1
    by_cases p2 : 0 < H
    · have k5 := decide_eq_true p2
      have k6n : (!decide (0 < H')) = false := by rw [decide_eq_true (show 0 < H' by omega)]; rfl
      repeat (first | refine awp_seq ?_ | refine awp_region_lit rfl ?_ | ((first | (show AWL _ _ _ (⟨_, .move _, _, _, _, _⟩ :: _) _ _ _; refine awl_pw ?wtq (pv_move rfl rfl) rfl rfl ?_) | (show AWL _ _ _ (⟨_, .assign _, _, _, _, _⟩ :: _) _ _ _; refine awl_pw ?wtq (pv_assign rfl rfl) rfl rfl ?_) | (show AWL _ _ _ (⟨_, .binOp .neq _ _ _ _, _, _, _, _⟩ :: _) _ _ _; refine awl_pw ?wtq (pv_neq rfl rfl rfl) rfl rfl ?_) | (show AWL _ _ _ (⟨_, .extract _ _, _, _, _, _⟩ :: _) _ _ _; refine awl_pw ?wtq (pv_extract rfl rfl rfl) rfl rfl ?_) | (show AWL _ _ _ (⟨_, .pick _ _ _, _, _, _, _⟩ :: _) _ _ _; refine awl_pw ?wtq (pv_pick_f rfl rfl tfA rfl) rfl rfl ?_)); case wtq => exact wtA) | refine awl_nil ?_)
      refine awl_hw wtA (st_call T0 (hS3) rfl rfl rfl rfl (by first | exact callee_lit | exact callee_v | exact callee_fn | assumption) rcA raA rfl ?_)
      rintro _ rfl
      repeat (first | ((first | (show AWL _ _ _ (⟨_, .move _, _, _, _, _⟩ :: _) _ _ _; refine awl_pw ?wtq (pv_move rfl rfl) rfl rfl ?_)); case wtq => exact wtA))
      refine awl_hw wtA (st_call T0 (hS4) rfl rfl rfl rfl (by first | exact callee_lit | exact callee_v | exact callee_fn | assumption) rcA raA rfl ?_)
      rintro _ rfl
      repeat (first | ((first | (show AWL _ _ _ (⟨_, .move _, _, _, _, _⟩ :: _) _ _ _; refine awl_pw ?wtq (pv_move rfl rfl) rfl rfl ?_) | (show AWL _ _ _ (⟨_, .binOp .sub _ _ _ _, _, _, _, _⟩ :: _) _ _ _; refine awl_pw ?wtq (pv_sub rfl rfl rfl (by first | assumption | exact wr64 (by omega))) rfl rfl ?_)); case wtq => exact wtA))
      refine awl_hw wtA (st_call T0 (hS1) rfl rfl rfl rfl (by first | exact callee_lit | exact callee_v | exact callee_fn | assumption) rcA raA rfl ?_)
      rintro _ rfl
      repeat (first | ((first | (show AWL _ _ _ (⟨_, .move _, _, _, _, _⟩ :: _) _ _ _; refine awl_pw ?wtq (pv_move rfl rfl) rfl rfl ?_)); case wtq => exact wtA))
      refine awl_hw wtA (st_call T0 (hS2) rfl rfl rfl rfl (by first | exact callee_lit | exact callee_v | exact callee_fn | assumption) rcA raA rfl ?_)
      rintro _ rfl
      repeat (first | refine awp_seq ?_ | refine awp_skip ?_ | with_reducible refine then_n ?_ | refine awp_cond_f rfl (by first | rfl | assumption | exact dF (by omega)) ?_ | ((first | (show AWL _ _ _ (⟨_, .move _, _, _, _, _⟩ :: _) _ _ _; refine awl_pw ?wtq (pv_move rfl rfl) rfl rfl ?_) | (show AWL _ _ _ (⟨_, .load _ _, _, _, _, _⟩ :: _) _ _ _; refine awl_lw ?wtq (lv_cl1 T0 rfl rfl rfl rcA raA) rfl rfl rfl ?_) | (show AWL _ _ _ (⟨_, .fieldAddr _ _ _, _, _, _, _⟩ :: _) _ _ _; refine awl_pw ?wtq (pv_fa T0 rfl rfl rfl (by simp; rfl)) rfl rfl ?_) | (show AWL _ _ _ (⟨_, .binOp .sub _ _ _ _, _, _, _, _⟩ :: _) _ _ _; refine awl_pw ?wtq (pv_sub rfl rfl rfl (by first | assumption | exact wr64 (by omega))) rfl rfl ?_) | (show AWL _ _ _ (⟨_, .binOp .lss _ _ _ _, _, _, _, _⟩ :: _) _ _ _; refine awl_pw ?wtq (pv_lss rfl rfl rfl) rfl rfl ?_) | (show AWL _ _ _ (⟨_, .unOp .not _ _, _, _, _, _⟩ :: _) _ _ _; refine awl_pw ?wtq (pv_not rfl rfl) rfl rfl ?_) | (show AWL _ _ _ (⟨_, .pick _ _ _, _, _, _, _⟩ :: _) _ _ _; refine awl_pw ?wtq (pv_pick_t rfl rfl tfA rfl) rfl rfl ?_) | (show AWL _ _ _ (⟨_, .pick _ _ _, _, _, _, _⟩ :: _) _ _ _; refine awl_pw ?wtq (pv_pick_f rfl rfl tfA rfl) rfl rfl ?_)); case wtq => exact wtA) | refine awl_sk (wf_some rfl rfl rfl rfl tfA) rfl rfl ?_ | refine awl_nil ?_)
      refine awp_cut _ (awp_weak ssA rcA (lm_18 (g3 := g3) (i := i) (m := m) (A := A) (S := ES) (still := decide (0 < L')) (can := decide (0 < H')) (u29 := .t (intsT true cl)) (u30 := intA ce) hin hlen hAl hESl hAm hESm rfl)) ?_
      rintro s h ⟨rfl, rfl⟩
      cases hAi : decide ((i : Int) ∈ A)
      · rw [hAi] at hh1
        repeat (first | refine awp_seq ?_ | refine awp_region_lit rfl ?_ | refine awp_skip ?_ | refine awp_cond_f rfl (by first | rfl | assumption | exact dF (by omega)) ?_ | ((first | (show AWL _ _ _ (⟨_, .move _, _, _, _, _⟩ :: _) _ _ _; refine awl_pw ?wtq (pv_move rfl rfl) rfl rfl ?_)); case wtq => exact wtA))
        refine awl_hw wtA (st_call T0 (hh1) rfl rfl rfl rfl (by first | exact callee_lit | exact callee_v | exact callee_fn | assumption) rcA raA rfl ?_)
        rintro _ rfl
        repeat (first | ((first | (show AWL _ _ _ (⟨_, .move _, _, _, _, _⟩ :: _) _ _ _; refine awl_pw ?wtq (pv_move rfl rfl) rfl rfl ?_) | (show AWL _ _ _ (⟨_, .unOp .not _ _, _, _, _, _⟩ :: _) _ _ _; refine awl_pw ?wtq (pv_not rfl rfl) rfl rfl ?_) | (show AWL _ _ _ (⟨_, .pick _ _ _, _, _, _, _⟩ :: _) _ _ _; refine awl_pw ?wtq (pv_pick_t rfl rfl tfA rfl) rfl rfl ?_)); case wtq => exact wtA) | refine awl_sk (wf_some rfl rfl rfl rfl tfA) rfl rfl ?_ | refine awl_sku (wu_some rfl rfl rfl rfl) rfl rfl ?_)
        refine awl_hw wtA (st_call T0 (awake_p) rfl rfl rfl rfl (by first | exact callee_lit | exact callee_v | exact callee_fn | assumption) rcA raA rfl ?_)
        rintro _ rfl
        repeat (first | refine awp_ret ?_ | ((first | (show AWL _ _ _ (⟨_, .assign _, _, _, _, _⟩ :: _) _ _ _; refine awl_pw ?wtq (pv_assign rfl rfl) rfl rfl ?_) | (show AWL _ _ _ (⟨_, .pick _ _ _, _, _, _, _⟩ :: _) _ _ _; refine awl_pw ?wtq (pv_pick_t rfl rfl tfA rfl) rfl rfl ?_)); case wtq => exact wtA) | refine awl_nil ?_)
        exact body_p (.cons rfl .nil) rfl
      · rw [hAi] at hh1
        obtain ⟨rfl, hcl⟩ := hco hAi
        have hES1 := hES hAi
        rw [hES1] at hh2
        have kcl : decide ((cl.length : Int) ≤ 1) = true := decide_eq_true (by omega)
        repeat (first | refine awp_seq ?_ | refine awp_region_lit rfl ?_ | refine awp_skip ?_ | refine awp_cond_f rfl (by first | rfl | assumption | exact dF (by omega)) ?_ | ((first | (show AWL _ _ _ (⟨_, .move _, _, _, _, _⟩ :: _) _ _ _; refine awl_pw ?wtq (pv_move rfl rfl) rfl rfl ?_)); case wtq => exact wtA))
        refine awl_hw wtA (st_call T0 (hh1) rfl rfl rfl rfl (by first | exact callee_lit | exact callee_v | exact callee_fn | assumption) rcA raA rfl ?_)
        rintro _ rfl
        repeat (first | ((first | (show AWL _ _ _ (⟨_, .move _, _, _, _, _⟩ :: _) _ _ _; refine awl_pw ?wtq (pv_move rfl rfl) rfl rfl ?_) | (show AWL _ _ _ (⟨_, .unOp .not _ _, _, _, _, _⟩ :: _) _ _ _; refine awl_pw ?wtq (pv_not rfl rfl) rfl rfl ?_)); case wtq => exact wtA))
        refine awl_hw wtA (st_call T0 (hh2) rfl rfl rfl rfl (by first | exact callee_lit | exact callee_v | exact callee_fn | assumption) rcA raA rfl ?_)
        rintro _ rfl
        repeat (first | ((first | (show AWL _ _ _ (⟨_, .move _, _, _, _, _⟩ :: _) _ _ _; refine awl_pw ?wtq (pv_move rfl rfl) rfl rfl ?_) | (show AWL _ _ _ (⟨_, .binOp .leq _ _ _ _, _, _, _, _⟩ :: _) _ _ _; refine awl_pw ?wtq (pv_leq rfl rfl rfl) rfl rfl ?_) | (show AWL _ _ _ (⟨_, .binOp .eql _ _ _ _, _, _, _, _⟩ :: _) _ _ _; refine awl_pw ?wtq (pv_eql rfl rfl rfl) rfl rfl ?_) | (show AWL _ _ _ (⟨_, .call ⟨.builtin .len, _, _⟩, _, _, _, _⟩ :: _) _ _ _; refine awl_pw ?wtq (pv_len_t T0 rfl rfl rfl) rfl rfl ?_) | (show AWL _ _ _ (⟨_, .pick _ _ _, _, _, _, _⟩ :: _) _ _ _; refine awl_pw ?wtq (pv_pick_t rfl rfl tfA rfl) rfl rfl ?_) | (show AWL _ _ _ (⟨_, .pick _ _ _, _, _, _, _⟩ :: _) _ _ _; refine awl_pw ?wtq (pv_pick_f rfl rfl tfA rfl) rfl rfl ?_)); case wtq => exact wtA))
        refine awl_hw wtA (st_call T0 (awake_p) rfl rfl rfl rfl (by first | exact callee_lit | exact callee_v | exact callee_fn | assumption) rcA raA rfl ?_)
        rintro _ rfl
        repeat (first | refine awp_ret ?_ | ((first | (show AWL _ _ _ (⟨_, .assign _, _, _, _, _⟩ :: _) _ _ _; refine awl_pw ?wtq (pv_assign rfl rfl) rfl rfl ?_) | (show AWL _ _ _ (⟨_, .pick _ _ _, _, _, _, _⟩ :: _) _ _ _; refine awl_pw ?wtq (pv_pick_t rfl rfl tfA rfl) rfl rfl ?_)); case wtq => exact wtA) | refine awl_nil ?_)
        exact body_p (.cons rfl .nil) rfl
    · have k5 := decide_eq_false p2
      repeat (first | refine awp_seq ?_ | refine awp_region_lit rfl ?_ | ((first | (show AWL _ _ _ (⟨_, .move _, _, _, _, _⟩ :: _) _ _ _; refine awl_pw ?wtq (pv_move rfl rfl) rfl rfl ?_) | (show AWL _ _ _ (⟨_, .assign _, _, _, _, _⟩ :: _) _ _ _; refine awl_pw ?wtq (pv_assign rfl rfl) rfl rfl ?_) | (show AWL _ _ _ (⟨_, .binOp .neq _ _ _ _, _, _, _, _⟩ :: _) _ _ _; refine awl_pw ?wtq (pv_neq rfl rfl rfl) rfl rfl ?_) | (show AWL _ _ _ (⟨_, .extract _ _, _, _, _, _⟩ :: _) _ _ _; refine awl_pw ?wtq (pv_extract rfl rfl rfl) rfl rfl ?_) | (show AWL _ _ _ (⟨_, .pick _ _ _, _, _, _, _⟩ :: _) _ _ _; refine awl_pw ?wtq (pv_pick_f rfl rfl tfA rfl) rfl rfl ?_)); case wtq => exact wtA) | refine awl_nil ?_)
      refine awl_hw wtA (st_call T0 (hS3) rfl rfl rfl rfl (by first | exact callee_lit | exact callee_v | exact callee_fn | assumption) rcA raA rfl ?_)
      rintro _ rfl
      repeat (first | ((first | (show AWL _ _ _ (⟨_, .move _, _, _, _, _⟩ :: _) _ _ _; refine awl_pw ?wtq (pv_move rfl rfl) rfl rfl ?_)); case wtq => exact wtA))
      refine awl_hw wtA (st_call T0 (hS4) rfl rfl rfl rfl (by first | exact callee_lit | exact callee_v | exact callee_fn | assumption) rcA raA rfl ?_)
      rintro _ rfl
      repeat (first | ((first | (show AWL _ _ _ (⟨_, .move _, _, _, _, _⟩ :: _) _ _ _; refine awl_pw ?wtq (pv_move rfl rfl) rfl rfl ?_) | (show AWL _ _ _ (⟨_, .binOp .sub _ _ _ _, _, _, _, _⟩ :: _) _ _ _; refine awl_pw ?wtq (pv_sub rfl rfl rfl (by first | assumption | exact wr64 (by omega))) rfl rfl ?_)); case wtq => exact wtA))
      refine awl_hw wtA (st_call T0 (hS1) rfl rfl rfl rfl (by first | exact callee_lit | exact callee_v | exact callee_fn | assumption) rcA raA rfl ?_)
      rintro _ rfl
      repeat (first | ((first | (show AWL _ _ _ (⟨_, .move _, _, _, _, _⟩ :: _) _ _ _; refine awl_pw ?wtq (pv_move rfl rfl) rfl rfl ?_)); case wtq => exact wtA))
      refine awl_hw wtA (st_call T0 (hS2) rfl rfl rfl rfl (by first | exact callee_lit | exact callee_v | exact callee_fn | assumption) rcA raA rfl ?_)
      rintro _ rfl
      repeat (first | refine awp_seq ?_ | refine awp_skip ?_ | with_reducible refine then_n ?_ | refine awp_cond_f rfl (by first | rfl | assumption | exact dF (by omega)) ?_ | ((first | (show AWL _ _ _ (⟨_, .move _, _, _, _, _⟩ :: _) _ _ _; refine awl_pw ?wtq (pv_move rfl rfl) rfl rfl ?_) | (show AWL _ _ _ (⟨_, .load _ _, _, _, _, _⟩ :: _) _ _ _; refine awl_lw ?wtq (lv_cl1 T0 rfl rfl rfl rcA raA) rfl rfl rfl ?_) | (show AWL _ _ _ (⟨_, .fieldAddr _ _ _, _, _, _, _⟩ :: _) _ _ _; refine awl_pw ?wtq (pv_fa T0 rfl rfl rfl (by simp; rfl)) rfl rfl ?_) | (show AWL _ _ _ (⟨_, .binOp .sub _ _ _ _, _, _, _, _⟩ :: _) _ _ _; refine awl_pw ?wtq (pv_sub rfl rfl rfl (by first | assumption | exact wr64 (by omega))) rfl rfl ?_) | (show AWL _ _ _ (⟨_, .binOp .lss _ _ _ _, _, _, _, _⟩ :: _) _ _ _; refine awl_pw ?wtq (pv_lss rfl rfl rfl) rfl rfl ?_) | (show AWL _ _ _ (⟨_, .pick _ _ _, _, _, _, _⟩ :: _) _ _ _; refine awl_pw ?wtq (pv_pick_f rfl rfl tfA rfl) rfl rfl ?_)); case wtq => exact wtA) | refine awl_sk (wf_some rfl rfl rfl rfl tfA) rfl rfl ?_ | refine awl_nil ?_)
      refine awp_cut _ (awp_weak ssA rcA (lm_18 (g3 := g3) (i := i) (m := m) (A := A) (S := ES) (still := decide (0 < L')) (can := decide (0 < H')) (u29 := .t (intsT true cl)) (u30 := intA ce) hin hlen hAl hESl hAm hESm rfl)) ?_
      rintro s h ⟨rfl, rfl⟩
      cases hAi : decide ((i : Int) ∈ A)
      · rw [hAi] at hh1
        repeat (first | refine awp_seq ?_ | refine awp_region_lit rfl ?_ | refine awp_skip ?_ | refine awp_cond_f rfl (by first | rfl | assumption | exact dF (by omega)) ?_ | ((first | (show AWL _ _ _ (⟨_, .move _, _, _, _, _⟩ :: _) _ _ _; refine awl_pw ?wtq (pv_move rfl rfl) rfl rfl ?_)); case wtq => exact wtA))
        refine awl_hw wtA (st_call T0 (hh1) rfl rfl rfl rfl (by first | exact callee_lit | exact callee_v | exact callee_fn | assumption) rcA raA rfl ?_)
        rintro _ rfl
        repeat (first | ((first | (show AWL _ _ _ (⟨_, .move _, _, _, _, _⟩ :: _) _ _ _; refine awl_pw ?wtq (pv_move rfl rfl) rfl rfl ?_) | (show AWL _ _ _ (⟨_, .unOp .not _ _, _, _, _, _⟩ :: _) _ _ _; refine awl_pw ?wtq (pv_not rfl rfl) rfl rfl ?_) | (show AWL _ _ _ (⟨_, .pick _ _ _, _, _, _, _⟩ :: _) _ _ _; refine awl_pw ?wtq (pv_pick_t rfl rfl tfA rfl) rfl rfl ?_)); case wtq => exact wtA) | refine awl_sk (wf_some rfl rfl rfl rfl tfA) rfl rfl ?_ | refine awl_sku (wu_some rfl rfl rfl rfl) rfl rfl ?_)
        refine awl_hw wtA (st_call T0 (awake_p) rfl rfl rfl rfl (by first | exact callee_lit | exact callee_v | exact callee_fn | assumption) rcA raA rfl ?_)
        rintro _ rfl
        repeat (first | refine awp_ret ?_ | ((first | (show AWL _ _ _ (⟨_, .assign _, _, _, _, _⟩ :: _) _ _ _; refine awl_pw ?wtq (pv_assign rfl rfl) rfl rfl ?_) | (show AWL _ _ _ (⟨_, .pick _ _ _, _, _, _, _⟩ :: _) _ _ _; refine awl_pw ?wtq (pv_pick_t rfl rfl tfA rfl) rfl rfl ?_)); case wtq => exact wtA) | refine awl_nil ?_)
        exact body_p (.cons rfl .nil) rfl
      · rw [hAi] at hh1
        obtain ⟨rfl, hcl⟩ := hco hAi
        have hES1 := hES hAi
        rw [hES1] at hh2
        have kcl : decide ((cl.length : Int) ≤ 1) = true := decide_eq_true (by omega)
        repeat (first | refine awp_seq ?_ | refine awp_region_lit rfl ?_ | refine awp_skip ?_ | refine awp_cond_f rfl (by first | rfl | assumption | exact dF (by omega)) ?_ | ((first | (show AWL _ _ _ (⟨_, .move _, _, _, _, _⟩ :: _) _ _ _; refine awl_pw ?wtq (pv_move rfl rfl) rfl rfl ?_)); case wtq => exact wtA))
        refine awl_hw wtA (st_call T0 (hh1) rfl rfl rfl rfl (by first | exact callee_lit | exact callee_v | exact callee_fn | assumption) rcA raA rfl ?_)
        rintro _ rfl
        repeat (first | ((first | (show AWL _ _ _ (⟨_, .move _, _, _, _, _⟩ :: _) _ _ _; refine awl_pw ?wtq (pv_move rfl rfl) rfl rfl ?_) | (show AWL _ _ _ (⟨_, .unOp .not _ _, _, _, _, _⟩ :: _) _ _ _; refine awl_pw ?wtq (pv_not rfl rfl) rfl rfl ?_)); case wtq => exact wtA))
        refine awl_hw wtA (st_call T0 (hh2) rfl rfl rfl rfl (by first | exact callee_lit | exact callee_v | exact callee_fn | assumption) rcA raA rfl ?_)
        rintro _ rfl
        repeat (first | ((first | (show AWL _ _ _ (⟨_, .move _, _, _, _, _⟩ :: _) _ _ _; refine awl_pw ?wtq (pv_move rfl rfl) rfl rfl ?_) | (show AWL _ _ _ (⟨_, .binOp .leq _ _ _ _, _, _, _, _⟩ :: _) _ _ _; refine awl_pw ?wtq (pv_leq rfl rfl rfl) rfl rfl ?_) | (show AWL _ _ _ (⟨_, .binOp .eql _ _ _ _, _, _, _, _⟩ :: _) _ _ _; refine awl_pw ?wtq (pv_eql rfl rfl rfl) rfl rfl ?_) | (show AWL _ _ _ (⟨_, .call ⟨.builtin .len, _, _⟩, _, _, _, _⟩ :: _) _ _ _; refine awl_pw ?wtq (pv_len_t T0 rfl rfl rfl) rfl rfl ?_) | (show AWL _ _ _ (⟨_, .pick _ _ _, _, _, _, _⟩ :: _) _ _ _; refine awl_pw ?wtq (pv_pick_t rfl rfl tfA rfl) rfl rfl ?_) | (show AWL _ _ _ (⟨_, .pick _ _ _, _, _, _, _⟩ :: _) _ _ _; refine awl_pw ?wtq (pv_pick_f rfl rfl tfA rfl) rfl rfl ?_)); case wtq => exact wtA))
        refine awl_hw wtA (st_call T0 (awake_p) rfl rfl rfl rfl (by first | exact callee_lit | exact callee_v | exact callee_fn | assumption) rcA raA rfl ?_)
        rintro _ rfl
        repeat (first | refine awp_ret ?_ | ((first | (show AWL _ _ _ (⟨_, .assign _, _, _, _, _⟩ :: _) _ _ _; refine awl_pw ?wtq (pv_assign rfl rfl) rfl rfl ?_) | (show AWL _ _ _ (⟨_, .pick _ _ _, _, _, _, _⟩ :: _) _ _ _; refine awl_pw ?wtq (pv_pick_t rfl rfl tfA rfl) rfl rfl ?_)); case wtq => exact wtA) | refine awl_nil ?_)
        exact body_p (.cons rfl .nil) rfl
end Go.Proofs.Ytallicfckbdeaaa
