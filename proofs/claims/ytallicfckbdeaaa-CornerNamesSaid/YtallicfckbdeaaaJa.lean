/- Whether sales are a settlement: the walk of ProveSettled (Try.func43). -/
import Derived.Test.YtallicfckbdeaaaXc
import Derived.Test.YtallicfckbdeaaaGNq
namespace Go.Proofs.Ytallicfckbdeaaa
open Go Go.RowKit Go.Tl
set_option linter.unusedVariables false
set_option linter.unusedSimpArgs false
set_option maxRecDepth 100000
set_option maxHeartbeats 4000000
attribute [local irreducible] AWP AWL AOp PV LV AWT AWE
/-- an array of six that holds the first numbers of a function -/
def cutF (f : Nat → Int) (n q : Nat) : Int := if q < n then f q else 0
theorem copy6 {l : List Int} {n : Nat} (hn : l.length = n) (h : n ≤ 6) : spA [intA 0, intA 0, intA 0, intA 0, intA 0, intA 0] 0 (((List.range (min n 6)).map fun k => ([Tr.sc (.int .i64 (l.getD k 0))] : List Tr).map AV.ofTr).flatten) = arrI (cutF (fun q => l.getD q 0) n) 6 := by
  subst hn
  match l, h with
  | [], _ => rfl
  | [a], _ => rfl
  | [a, b], _ => rfl
  | [a, b, c], _ => rfl
  | [a, b, c, d], _ => rfl
  | [a, b, c, d, e], _ => rfl
  | [a, b, c, d, e, f], _ => rfl
theorem arrI_congr {f g : Nat → Int} {n : Nat} (h : ∀ q, q < n → f q = g q) : arrI f n = arrI g n := by
  unfold arrI
  exact List.map_congr_left fun q hq => by rw [h q (List.mem_range.1 hq)]
theorem nd_bd {m : MktD} {t : List Int} {l : List SalC} (hv : VMkt m) (ht : truthB m t = true) {i : Nat} (hi : i < m.hou.length) : ∀ k : Nat, (∀ j, j < k → OkS m t l j) → -2000 * (k : Int) ≤ ndK m t l k i ∧ ndK m t l k i ≤ 2000
  | 0, _ => by
    have := pos_bd hv ht hi
    have := needN_bd (p := posN m t i) (by omega)
    simp only [ndK]
    unfold needN at *
    omega
  | k + 1, h => by
    have ih := nd_bd hv ht hi k (fun j hj => h j (by omega))
    have ho := h k (by omega)
    have h1 := spK_nn (i := (l.getD k default).fr.toNat) (fun j hj => h j (by omega) : ∀ j, j < k → OkS m t l j)
    have h2 := ho.sh
    have h3 := ho.fr
    have h4 := pos_bd hv ht (show (l.getD k default).fr.toNat < m.hou.length by omega)
    have h5 : spK m t l 0 (l.getD k default).fr.toNat ≤ 2000 := by
      show spareN _ _ ≤ _
      unfold spareN
      split <;> omega
    simp only [ndK]
    split <;> omega
theorem co_bd {m : MktD} {t : List Int} {l : List SalC} (hv : VMkt m) (ht : truthB m t = true) : ∀ k : Nat, (∀ j, j < k → OkS m t l j) → 0 ≤ coK m l k ∧ coK m l k ≤ 2000000 * (k : Int)
  | 0, _ => by simp [coK]
  | k + 1, h => by
    have ih := co_bd hv ht k (fun j hj => h j (by omega))
    have ho := h k (by omega)
    have h1 := spK_nn (i := (l.getD k default).fr.toNat) (fun j hj => h j (by omega) : ∀ j, j < k → OkS m t l j)
    have h2 := ho.sh
    have h3 := ho.fr
    have h4 := pos_bd hv ht (show (l.getD k default).fr.toNat < m.hou.length by omega)
    have h5 : spK m t l 0 (l.getD k default).fr.toNat ≤ 2000 := by
      show spareN _ _ ≤ _
      unfold spareN
      split <;> omega
    have h6 := mul_bd (a := (l.getD k default).sh) (b := (m.hou.getD (l.getD k default).fr.toNat default).ask) (by omega) (hv.ask _ (by omega))
    simp only [coK]
    omega
/-- what ProveSettled returns -/
def provesB (m : MktD) (t : List Int) (l : List SalC) (cost : Int) : Bool := decide ((needsR m t).2.2 = 0) && setB m t l cost
theorem sp_bd {m : MktD} {t : List Int} {l : List SalC} (hv : VMkt m) (ht : truthB m t = true) {i k : Nat} (hi : i < m.hou.length) (h : ∀ j, j < k → OkS m t l j) : 0 ≤ spK m t l k i ∧ spK m t l k i ≤ 2000 := by
  have h1 := spK_nn (i := i) h
  have h4 := pos_bd hv ht hi
  have h5 : spK m t l 0 i ≤ 2000 := by
    show spareN _ _ ≤ _
    unfold spareN
    split <;> omega
  omega
section
variable {g4 g12 g13 g16 gs c2 n k f b : Nat} {cp cc cl : Bool} {m : MktD} {sp nd nd' : Nat → Int} {fr to sh x sum cost : Int} {u3 u10 u12 u13 u14 u29 u30 u31 : AV} {r : Bool} {rest : List Ent}
theorem ja_10a (hl : m.hou.length ≤ 1000) (h1 : inB fr 0 ((m.hou.length : Int) - 1) = false) {ops : Array Oper} (h : regF Try.f43 10 = some ops) :
    AWP Try.prog Try.f43.ntmps none (.region 10 ops true) (cutQ (fun s h => s = [(64, boolA true)] ∧ h = []))
      [(4, .v (ptrV g4)), (16, .v (ptrV g16))] [mkE g4 cp cc m, .cl g16 71 [intA fr, intA to, intA sh]] := by
  cases h
  refine awp_par T0 (l := (0 :: 1 :: 2 :: 3 :: 4 :: 5 :: 6 :: 7 :: 8 :: 9 :: 10 :: 11 :: 12 :: 13 :: 14 :: 15 :: 16 :: 17 :: 18 :: 19 :: 20 :: 21 :: 22 :: 23 :: 24 :: 25 :: 26 :: 27 :: 28 :: 29 :: [])) rfl (by kernel_rfl) (by kernel_rfl) ?_
  apply parW_op (ds := [4]) rfl rfl rfl rfl (by kernel_rfl)
  · exact .inl ⟨(wt_none rfl), stepQ_lv (lv_cla T0 rfl rfl rfl rcA rfl) rfl rfl⟩
  apply parW_op (ds := [16]) rfl rfl rfl rfl (by kernel_rfl)
  · exact .inl ⟨(wt_none rfl), stepQ_pv (pv_fa T0 rfl rfl rfl (by simp; rfl)) rfl rfl⟩
  apply parW_op (ds := [36]) rfl rfl rfl rfl (by kernel_rfl)
  · exact .inl ⟨(wt_none rfl), stepQ_lv (lv_cl1 T0 rfl rfl rfl rcA raA) rfl rfl⟩
  apply parW_op (ds := [35, 37]) rfl rfl rfl rfl (by kernel_rfl)
  · refine .inl ⟨(wt_none rfl), ?_⟩
    refine st_call T0 (house_q hl h1) rfl rfl rfl rfl (by first | exact callee_lit | exact callee_v | exact callee_fn | assumption) rcA raA rfl ?_
    rintro _ rfl
    exact ⟨_, Ghost.refl, rfl⟩
  apply parW_op (ds := [38]) rfl rfl rfl rfl (by kernel_rfl)
  · exact .inl ⟨(wt_none rfl), stepQ_pv (pv_not rfl rfl) rfl rfl⟩
  apply parW_op (ds := [39]) rfl rfl rfl rfl (by kernel_rfl)
  · exact .inl ⟨(wt_none rfl), stepQ_pv (pv_move rfl rfl) rfl rfl⟩
  apply parW_op (ds := [4, 40]) rfl rfl rfl rfl (by kernel_rfl)
  · exact .inr ⟨(wf_some rfl rfl rfl rfl tfA), rfl⟩
  apply parW_op (ds := [16, 40]) rfl rfl rfl rfl (by kernel_rfl)
  · exact .inr ⟨(wf_some rfl rfl rfl rfl tfA), rfl⟩
  apply parW_op (ds := [42, 40]) rfl rfl rfl rfl (by kernel_rfl)
  · exact .inr ⟨(wf_some rfl rfl rfl rfl tfA), rfl⟩
  apply parW_op (ds := [41, 43, 40]) rfl rfl rfl rfl (by kernel_rfl)
  · exact .inr ⟨(wf_some rfl rfl rfl rfl tfA), rfl⟩
  apply parW_op (ds := [44, 40]) rfl rfl rfl rfl (by kernel_rfl)
  · exact .inr ⟨(wf_some rfl rfl rfl rfl tfA), rfl⟩
  apply parW_op (ds := [40, 45]) rfl rfl rfl rfl (by kernel_rfl)
  · exact .inl ⟨(wt_none rfl), stepQ_pv (pv_pick_t rfl rfl tfA rfl) rfl rfl⟩
  apply parW_op (ds := [46]) rfl rfl rfl rfl (by kernel_rfl)
  · exact .inl ⟨(wt_none rfl), stepQ_pv (pv_move rfl rfl) rfl rfl⟩
  apply parW_op (ds := [16, 47]) rfl rfl rfl rfl (by kernel_rfl)
  · exact .inr ⟨(wf_some rfl rfl rfl rfl tfA), rfl⟩
  apply parW_op (ds := [48, 47]) rfl rfl rfl rfl (by kernel_rfl)
  · exact .inr ⟨(wf_some rfl rfl rfl rfl tfA), rfl⟩
  apply parW_op (ds := [16, 47]) rfl rfl rfl rfl (by kernel_rfl)
  · exact .inr ⟨(wf_some rfl rfl rfl rfl tfA), rfl⟩
  apply parW_op (ds := [50, 47]) rfl rfl rfl rfl (by kernel_rfl)
  · exact .inr ⟨(wf_some rfl rfl rfl rfl tfA), rfl⟩
  apply parW_op (ds := [49, 51, 47]) rfl rfl rfl rfl (by kernel_rfl)
  · exact .inr ⟨(wf_some rfl rfl rfl rfl tfA), rfl⟩
  apply parW_op (ds := [47, 52]) rfl rfl rfl rfl (by kernel_rfl)
  · exact .inl ⟨(wt_none rfl), stepQ_pv (pv_pick_t rfl rfl tfA rfl) rfl rfl⟩
  apply parW_op (ds := [53]) rfl rfl rfl rfl (by kernel_rfl)
  · exact .inl ⟨(wt_none rfl), stepQ_pv (pv_move rfl rfl) rfl rfl⟩
  apply parW_op (ds := [16, 54]) rfl rfl rfl rfl (by kernel_rfl)
  · exact .inr ⟨(wf_some rfl rfl rfl rfl tfA), rfl⟩
  apply parW_op (ds := [55, 54]) rfl rfl rfl rfl (by kernel_rfl)
  · exact .inr ⟨(wf_some rfl rfl rfl rfl tfA), rfl⟩
  apply parW_op (ds := [10, 54]) rfl rfl rfl rfl (by kernel_rfl)
  · exact .inr ⟨(wf_some rfl rfl rfl rfl tfA), rfl⟩
  apply parW_op (ds := [16, 54]) rfl rfl rfl rfl (by kernel_rfl)
  · exact .inr ⟨(wf_some rfl rfl rfl rfl tfA), rfl⟩
  apply parW_op (ds := [58, 54]) rfl rfl rfl rfl (by kernel_rfl)
  · exact .inr ⟨(wf_some rfl rfl rfl rfl tfA), rfl⟩
  apply parW_op (ds := [57, 59, 54]) rfl rfl rfl rfl (by kernel_rfl)
  · exact .inr ⟨(wf_some rfl rfl rfl rfl tfA), rfl⟩
  apply parW_op (ds := [60, 54]) rfl rfl rfl rfl (by kernel_rfl)
  · exact .inr ⟨(wf_some rfl rfl rfl rfl tfA), rfl⟩
  apply parW_op (ds := [56, 61, 54]) rfl rfl rfl rfl (by kernel_rfl)
  · exact .inr ⟨(wf_some rfl rfl rfl rfl tfA), rfl⟩
  apply parW_op (ds := [62, 54]) rfl rfl rfl rfl (by kernel_rfl)
  · exact .inr ⟨(wf_some rfl rfl rfl rfl tfA), rfl⟩
  apply parW_op (ds := [54, 63]) rfl rfl rfl rfl (by kernel_rfl)
  · exact .inl ⟨(wt_none rfl), stepQ_pv (pv_pick_t rfl rfl tfA rfl) rfl rfl⟩
  refine parW_nil ?_
  exact cut_n ⟨rfl, rfl⟩ ssA rcA
theorem ja_10b (hl : m.hou.length ≤ 1000) (h1 : inB fr 0 ((m.hou.length : Int) - 1) = true) (h2 : inB to 0 ((m.hou.length : Int) - 1) = false) {ops : Array Oper} (h : regF Try.f43 10 = some ops) :
    AWP Try.prog Try.f43.ntmps none (.region 10 ops true) (cutQ (fun s h => s = [(64, boolA true)] ∧ h = []))
      [(4, .v (ptrV g4)), (16, .v (ptrV g16))] [mkE g4 cp cc m, .cl g16 71 [intA fr, intA to, intA sh]] := by
  cases h
  refine awp_par T0 (l := (0 :: 1 :: 2 :: 3 :: 4 :: 5 :: 6 :: 7 :: 8 :: 9 :: 10 :: 11 :: 12 :: 13 :: 14 :: 15 :: 16 :: 17 :: 18 :: 19 :: 20 :: 21 :: 22 :: 23 :: 24 :: 25 :: 26 :: 27 :: 28 :: 29 :: [])) rfl (by kernel_rfl) (by kernel_rfl) ?_
  apply parW_op (ds := [4]) rfl rfl rfl rfl (by kernel_rfl)
  · exact .inl ⟨(wt_none rfl), stepQ_lv (lv_cla T0 rfl rfl rfl rcA rfl) rfl rfl⟩
  apply parW_op (ds := [16]) rfl rfl rfl rfl (by kernel_rfl)
  · exact .inl ⟨(wt_none rfl), stepQ_pv (pv_fa T0 rfl rfl rfl (by simp; rfl)) rfl rfl⟩
  apply parW_op (ds := [36]) rfl rfl rfl rfl (by kernel_rfl)
  · exact .inl ⟨(wt_none rfl), stepQ_lv (lv_cl1 T0 rfl rfl rfl rcA raA) rfl rfl⟩
  apply parW_op (ds := [35, 37]) rfl rfl rfl rfl (by kernel_rfl)
  · refine .inl ⟨(wt_none rfl), ?_⟩
    refine st_call T0 (house_q hl h1) rfl rfl rfl rfl (by first | exact callee_lit | exact callee_v | exact callee_fn | assumption) rcA raA rfl ?_
    rintro _ rfl
    exact ⟨_, Ghost.refl, rfl⟩
  apply parW_op (ds := [38]) rfl rfl rfl rfl (by kernel_rfl)
  · exact .inl ⟨(wt_none rfl), stepQ_pv (pv_not rfl rfl) rfl rfl⟩
  apply parW_op (ds := [39]) rfl rfl rfl rfl (by kernel_rfl)
  · exact .inl ⟨(wt_none rfl), stepQ_pv (pv_move rfl rfl) rfl rfl⟩
  apply parW_op (ds := [4, 40]) rfl rfl rfl rfl (by kernel_rfl)
  · exact .inl ⟨wtS, stepQ_lv (lv_cla T0 rfl rfl rfl rcA rfl) rfl rfl⟩
  apply parW_op (ds := [16, 40]) rfl rfl rfl rfl (by kernel_rfl)
  · exact .inl ⟨wtS, stepQ_pv (pv_fa T0 rfl rfl rfl (by simp; rfl)) rfl rfl⟩
  apply parW_op (ds := [42, 40]) rfl rfl rfl rfl (by kernel_rfl)
  · exact .inl ⟨wtS, stepQ_lv (lv_cl1 T0 rfl rfl rfl rcA raA) rfl rfl⟩
  apply parW_op (ds := [41, 43, 40]) rfl rfl rfl rfl (by kernel_rfl)
  · refine .inl ⟨wtS, ?_⟩
    refine st_call T0 (house_q hl h2) rfl rfl rfl rfl (by first | exact callee_lit | exact callee_v | exact callee_fn | assumption) rcA raA rfl ?_
    rintro _ rfl
    exact ⟨_, Ghost.refl, rfl⟩
  apply parW_op (ds := [44, 40]) rfl rfl rfl rfl (by kernel_rfl)
  · exact .inl ⟨wtS, stepQ_pv (pv_not rfl rfl) rfl rfl⟩
  apply parW_op (ds := [40, 45]) rfl rfl rfl rfl (by kernel_rfl)
  · exact .inl ⟨(wt_none rfl), stepQ_pv (pv_pick_f rfl rfl tfA rfl) rfl rfl⟩
  apply parW_op (ds := [46]) rfl rfl rfl rfl (by kernel_rfl)
  · exact .inl ⟨(wt_none rfl), stepQ_pv (pv_move rfl rfl) rfl rfl⟩
  apply parW_op (ds := [16, 47]) rfl rfl rfl rfl (by kernel_rfl)
  · exact .inr ⟨(wf_some rfl rfl rfl rfl tfA), rfl⟩
  apply parW_op (ds := [48, 47]) rfl rfl rfl rfl (by kernel_rfl)
  · exact .inr ⟨(wf_some rfl rfl rfl rfl tfA), rfl⟩
  apply parW_op (ds := [16, 47]) rfl rfl rfl rfl (by kernel_rfl)
  · exact .inr ⟨(wf_some rfl rfl rfl rfl tfA), rfl⟩
  apply parW_op (ds := [50, 47]) rfl rfl rfl rfl (by kernel_rfl)
  · exact .inr ⟨(wf_some rfl rfl rfl rfl tfA), rfl⟩
  apply parW_op (ds := [49, 51, 47]) rfl rfl rfl rfl (by kernel_rfl)
  · exact .inr ⟨(wf_some rfl rfl rfl rfl tfA), rfl⟩
  apply parW_op (ds := [47, 52]) rfl rfl rfl rfl (by kernel_rfl)
  · exact .inl ⟨(wt_none rfl), stepQ_pv (pv_pick_t rfl rfl tfA rfl) rfl rfl⟩
  apply parW_op (ds := [53]) rfl rfl rfl rfl (by kernel_rfl)
  · exact .inl ⟨(wt_none rfl), stepQ_pv (pv_move rfl rfl) rfl rfl⟩
  apply parW_op (ds := [16, 54]) rfl rfl rfl rfl (by kernel_rfl)
  · exact .inr ⟨(wf_some rfl rfl rfl rfl tfA), rfl⟩
  apply parW_op (ds := [55, 54]) rfl rfl rfl rfl (by kernel_rfl)
  · exact .inr ⟨(wf_some rfl rfl rfl rfl tfA), rfl⟩
  apply parW_op (ds := [10, 54]) rfl rfl rfl rfl (by kernel_rfl)
  · exact .inr ⟨(wf_some rfl rfl rfl rfl tfA), rfl⟩
  apply parW_op (ds := [16, 54]) rfl rfl rfl rfl (by kernel_rfl)
  · exact .inr ⟨(wf_some rfl rfl rfl rfl tfA), rfl⟩
  apply parW_op (ds := [58, 54]) rfl rfl rfl rfl (by kernel_rfl)
  · exact .inr ⟨(wf_some rfl rfl rfl rfl tfA), rfl⟩
  apply parW_op (ds := [57, 59, 54]) rfl rfl rfl rfl (by kernel_rfl)
  · exact .inr ⟨(wf_some rfl rfl rfl rfl tfA), rfl⟩
  apply parW_op (ds := [60, 54]) rfl rfl rfl rfl (by kernel_rfl)
  · exact .inr ⟨(wf_some rfl rfl rfl rfl tfA), rfl⟩
  apply parW_op (ds := [56, 61, 54]) rfl rfl rfl rfl (by kernel_rfl)
  · exact .inr ⟨(wf_some rfl rfl rfl rfl tfA), rfl⟩
  apply parW_op (ds := [62, 54]) rfl rfl rfl rfl (by kernel_rfl)
  · exact .inr ⟨(wf_some rfl rfl rfl rfl tfA), rfl⟩
  apply parW_op (ds := [54, 63]) rfl rfl rfl rfl (by kernel_rfl)
  · exact .inl ⟨(wt_none rfl), stepQ_pv (pv_pick_t rfl rfl tfA rfl) rfl rfl⟩
  refine parW_nil ?_
  exact cut_n ⟨rfl, rfl⟩ ssA rcA
theorem ja_10c (hl : m.hou.length ≤ 1000) (h1 : inB fr 0 ((m.hou.length : Int) - 1) = true) (h2 : inB to 0 ((m.hou.length : Int) - 1) = true) (h3 : fr = to) {ops : Array Oper} (h : regF Try.f43 10 = some ops) :
    AWP Try.prog Try.f43.ntmps none (.region 10 ops true) (cutQ (fun s h => s = [(64, boolA true)] ∧ h = []))
      [(4, .v (ptrV g4)), (16, .v (ptrV g16))] [mkE g4 cp cc m, .cl g16 71 [intA fr, intA to, intA sh]] := by
  cases h
  have d3 := decide_eq_true h3
  refine awp_par T0 (l := (0 :: 1 :: 2 :: 3 :: 4 :: 5 :: 6 :: 7 :: 8 :: 9 :: 10 :: 11 :: 12 :: 13 :: 14 :: 15 :: 16 :: 17 :: 18 :: 19 :: 20 :: 21 :: 22 :: 23 :: 24 :: 25 :: 26 :: 27 :: 28 :: 29 :: [])) rfl (by kernel_rfl) (by kernel_rfl) ?_
  apply parW_op (ds := [4]) rfl rfl rfl rfl (by kernel_rfl)
  · exact .inl ⟨(wt_none rfl), stepQ_lv (lv_cla T0 rfl rfl rfl rcA rfl) rfl rfl⟩
  apply parW_op (ds := [16]) rfl rfl rfl rfl (by kernel_rfl)
  · exact .inl ⟨(wt_none rfl), stepQ_pv (pv_fa T0 rfl rfl rfl (by simp; rfl)) rfl rfl⟩
  apply parW_op (ds := [36]) rfl rfl rfl rfl (by kernel_rfl)
  · exact .inl ⟨(wt_none rfl), stepQ_lv (lv_cl1 T0 rfl rfl rfl rcA raA) rfl rfl⟩
  apply parW_op (ds := [35, 37]) rfl rfl rfl rfl (by kernel_rfl)
  · refine .inl ⟨(wt_none rfl), ?_⟩
    refine st_call T0 (house_q hl h1) rfl rfl rfl rfl (by first | exact callee_lit | exact callee_v | exact callee_fn | assumption) rcA raA rfl ?_
    rintro _ rfl
    exact ⟨_, Ghost.refl, rfl⟩
  apply parW_op (ds := [38]) rfl rfl rfl rfl (by kernel_rfl)
  · exact .inl ⟨(wt_none rfl), stepQ_pv (pv_not rfl rfl) rfl rfl⟩
  apply parW_op (ds := [39]) rfl rfl rfl rfl (by kernel_rfl)
  · exact .inl ⟨(wt_none rfl), stepQ_pv (pv_move rfl rfl) rfl rfl⟩
  apply parW_op (ds := [4, 40]) rfl rfl rfl rfl (by kernel_rfl)
  · exact .inl ⟨wtS, stepQ_lv (lv_cla T0 rfl rfl rfl rcA rfl) rfl rfl⟩
  apply parW_op (ds := [16, 40]) rfl rfl rfl rfl (by kernel_rfl)
  · exact .inl ⟨wtS, stepQ_pv (pv_fa T0 rfl rfl rfl (by simp; rfl)) rfl rfl⟩
  apply parW_op (ds := [42, 40]) rfl rfl rfl rfl (by kernel_rfl)
  · exact .inl ⟨wtS, stepQ_lv (lv_cl1 T0 rfl rfl rfl rcA raA) rfl rfl⟩
  apply parW_op (ds := [41, 43, 40]) rfl rfl rfl rfl (by kernel_rfl)
  · refine .inl ⟨wtS, ?_⟩
    refine st_call T0 (house_q hl h2) rfl rfl rfl rfl (by first | exact callee_lit | exact callee_v | exact callee_fn | assumption) rcA raA rfl ?_
    rintro _ rfl
    exact ⟨_, Ghost.refl, rfl⟩
  apply parW_op (ds := [44, 40]) rfl rfl rfl rfl (by kernel_rfl)
  · exact .inl ⟨wtS, stepQ_pv (pv_not rfl rfl) rfl rfl⟩
  apply parW_op (ds := [40, 45]) rfl rfl rfl rfl (by kernel_rfl)
  · exact .inl ⟨(wt_none rfl), stepQ_pv (pv_pick_f rfl rfl tfA rfl) rfl rfl⟩
  apply parW_op (ds := [46]) rfl rfl rfl rfl (by kernel_rfl)
  · exact .inl ⟨(wt_none rfl), stepQ_pv (pv_move rfl rfl) rfl rfl⟩
  apply parW_op (ds := [16, 47]) rfl rfl rfl rfl (by kernel_rfl)
  · exact .inl ⟨wtS, stepQ_pv (pv_fa T0 rfl rfl rfl (by simp; rfl)) rfl rfl⟩
  apply parW_op (ds := [48, 47]) rfl rfl rfl rfl (by kernel_rfl)
  · exact .inl ⟨wtS, stepQ_lv (lv_cl1 T0 rfl rfl rfl rcA raA) rfl rfl⟩
  apply parW_op (ds := [16, 47]) rfl rfl rfl rfl (by kernel_rfl)
  · exact .inl ⟨wtS, stepQ_pv (pv_fa T0 rfl rfl rfl (by simp; rfl)) rfl rfl⟩
  apply parW_op (ds := [50, 47]) rfl rfl rfl rfl (by kernel_rfl)
  · exact .inl ⟨wtS, stepQ_lv (lv_cl1 T0 rfl rfl rfl rcA raA) rfl rfl⟩
  apply parW_op (ds := [49, 51, 47]) rfl rfl rfl rfl (by kernel_rfl)
  · exact .inl ⟨wtS, stepQ_pv (pv_eql rfl rfl rfl) rfl rfl⟩
  apply parW_op (ds := [47, 52]) rfl rfl rfl rfl (by kernel_rfl)
  · exact .inl ⟨(wt_none rfl), stepQ_pv (pv_pick_f rfl rfl tfA rfl) rfl rfl⟩
  apply parW_op (ds := [53]) rfl rfl rfl rfl (by kernel_rfl)
  · exact .inl ⟨(wt_none rfl), stepQ_pv (pv_move rfl rfl) rfl rfl⟩
  apply parW_op (ds := [16, 54]) rfl rfl rfl rfl (by kernel_rfl)
  · exact .inr ⟨(wf_some rfl rfl rfl rfl tfA), rfl⟩
  apply parW_op (ds := [55, 54]) rfl rfl rfl rfl (by kernel_rfl)
  · exact .inr ⟨(wf_some rfl rfl rfl rfl tfA), rfl⟩
  apply parW_op (ds := [10, 54]) rfl rfl rfl rfl (by kernel_rfl)
  · exact .inr ⟨(wf_some rfl rfl rfl rfl tfA), rfl⟩
  apply parW_op (ds := [16, 54]) rfl rfl rfl rfl (by kernel_rfl)
  · exact .inr ⟨(wf_some rfl rfl rfl rfl tfA), rfl⟩
  apply parW_op (ds := [58, 54]) rfl rfl rfl rfl (by kernel_rfl)
  · exact .inr ⟨(wf_some rfl rfl rfl rfl tfA), rfl⟩
  apply parW_op (ds := [57, 59, 54]) rfl rfl rfl rfl (by kernel_rfl)
  · exact .inr ⟨(wf_some rfl rfl rfl rfl tfA), rfl⟩
  apply parW_op (ds := [60, 54]) rfl rfl rfl rfl (by kernel_rfl)
  · exact .inr ⟨(wf_some rfl rfl rfl rfl tfA), rfl⟩
  apply parW_op (ds := [56, 61, 54]) rfl rfl rfl rfl (by kernel_rfl)
  · exact .inr ⟨(wf_some rfl rfl rfl rfl tfA), rfl⟩
  apply parW_op (ds := [62, 54]) rfl rfl rfl rfl (by kernel_rfl)
  · exact .inr ⟨(wf_some rfl rfl rfl rfl tfA), rfl⟩
  apply parW_op (ds := [54, 63]) rfl rfl rfl rfl (by kernel_rfl)
  · exact .inl ⟨(wt_none rfl), stepQ_pv (pv_pick_t rfl rfl tfA rfl) rfl rfl⟩
  refine parW_nil ?_
  exact cut_n ⟨rfl, rfl⟩ ssA rcA
theorem ja_10d (hl : m.hou.length ≤ 1000) (h1 : inB (f : Int) 0 ((m.hou.length : Int) - 1) = true) (h2 : inB (b : Int) 0 ((m.hou.length : Int) - 1) = true) (h3 : (f : Int) ≠ (b : Int)) (hf : f < n) (hr : inB sh 1 (sp f) = r) {ops : Array Oper} (h : regF Try.f43 10 = some ops) :
    AWP Try.prog Try.f43.ntmps none (.region 10 ops true) (cutQ (fun s h => s = [(64, boolA (!r)), (3, u3), (4, .v (ptrV g4)), (10, .v (.slice (some ⟨gs, 0, none⟩) n c2)), (12, u12), (13, u13), (14, u14), (16, .v (ptrV g16)), (29, u29), (30, u30), (31, u31)] ∧ h = mkE g4 cp cc m :: .cl g16 71 [intA f, intA b, intA sh] :: .rw (.slice (some ⟨gs, 0, none⟩) n c2) 3 1 (fRows sp n) :: rest))
      [(3, u3), (4, .v (ptrV g4)), (10, .v (.slice (some ⟨gs, 0, none⟩) n c2)), (12, u12), (13, u13), (14, u14), (16, .v (ptrV g16)), (29, u29), (30, u30), (31, u31)] (mkE g4 cp cc m :: .cl g16 71 [intA f, intA b, intA sh] :: .rw (.slice (some ⟨gs, 0, none⟩) n c2) 3 1 (fRows sp n) :: rest) := by
  cases h
  have d3 : decide ((f : Int) = (b : Int)) = false := decide_eq_false h3
  have r2 := fRows_at (f := sp) hf
  have r4 := fRows_len sp n
  refine awp_par T0 (l := (0 :: 1 :: 2 :: 3 :: 4 :: 5 :: 6 :: 7 :: 8 :: 9 :: 10 :: 11 :: 12 :: 13 :: 14 :: 15 :: 16 :: 17 :: 18 :: 19 :: 20 :: 21 :: 22 :: 23 :: 24 :: 25 :: 26 :: 27 :: 28 :: 29 :: [])) rfl (by kernel_rfl) (by kernel_rfl) ?_
  apply parW_op (ds := [4]) rfl rfl rfl rfl (by kernel_rfl)
  · exact .inl ⟨(wt_none rfl), stepQ_lv (lv_cla T0 rfl rfl rfl rcA rfl) rfl rfl⟩
  apply parW_op (ds := [16]) rfl rfl rfl rfl (by kernel_rfl)
  · exact .inl ⟨(wt_none rfl), stepQ_pv (pv_fa T0 rfl rfl rfl (by simp; rfl)) rfl rfl⟩
  apply parW_op (ds := [36]) rfl rfl rfl rfl (by kernel_rfl)
  · exact .inl ⟨(wt_none rfl), stepQ_lv (lv_cl1 T0 rfl rfl rfl rcA raA) rfl rfl⟩
  apply parW_op (ds := [35, 37]) rfl rfl rfl rfl (by kernel_rfl)
  · refine .inl ⟨(wt_none rfl), ?_⟩
    refine st_call T0 (house_q hl h1) rfl rfl rfl rfl (by first | exact callee_lit | exact callee_v | exact callee_fn | assumption) rcA raA rfl ?_
    rintro _ rfl
    exact ⟨_, Ghost.refl, rfl⟩
  apply parW_op (ds := [38]) rfl rfl rfl rfl (by kernel_rfl)
  · exact .inl ⟨(wt_none rfl), stepQ_pv (pv_not rfl rfl) rfl rfl⟩
  apply parW_op (ds := [39]) rfl rfl rfl rfl (by kernel_rfl)
  · exact .inl ⟨(wt_none rfl), stepQ_pv (pv_move rfl rfl) rfl rfl⟩
  apply parW_op (ds := [4, 40]) rfl rfl rfl rfl (by kernel_rfl)
  · exact .inl ⟨wtS, stepQ_lv (lv_cla T0 rfl rfl rfl rcA rfl) rfl rfl⟩
  apply parW_op (ds := [16, 40]) rfl rfl rfl rfl (by kernel_rfl)
  · exact .inl ⟨wtS, stepQ_pv (pv_fa T0 rfl rfl rfl (by simp; rfl)) rfl rfl⟩
  apply parW_op (ds := [42, 40]) rfl rfl rfl rfl (by kernel_rfl)
  · exact .inl ⟨wtS, stepQ_lv (lv_cl1 T0 rfl rfl rfl rcA raA) rfl rfl⟩
  apply parW_op (ds := [41, 43, 40]) rfl rfl rfl rfl (by kernel_rfl)
  · refine .inl ⟨wtS, ?_⟩
    refine st_call T0 (house_q hl h2) rfl rfl rfl rfl (by first | exact callee_lit | exact callee_v | exact callee_fn | assumption) rcA raA rfl ?_
    rintro _ rfl
    exact ⟨_, Ghost.refl, rfl⟩
  apply parW_op (ds := [44, 40]) rfl rfl rfl rfl (by kernel_rfl)
  · exact .inl ⟨wtS, stepQ_pv (pv_not rfl rfl) rfl rfl⟩
  apply parW_op (ds := [40, 45]) rfl rfl rfl rfl (by kernel_rfl)
  · exact .inl ⟨(wt_none rfl), stepQ_pv (pv_pick_f rfl rfl tfA rfl) rfl rfl⟩
  apply parW_op (ds := [46]) rfl rfl rfl rfl (by kernel_rfl)
  · exact .inl ⟨(wt_none rfl), stepQ_pv (pv_move rfl rfl) rfl rfl⟩
  apply parW_op (ds := [16, 47]) rfl rfl rfl rfl (by kernel_rfl)
  · exact .inl ⟨wtS, stepQ_pv (pv_fa T0 rfl rfl rfl (by simp; rfl)) rfl rfl⟩
  apply parW_op (ds := [48, 47]) rfl rfl rfl rfl (by kernel_rfl)
  · exact .inl ⟨wtS, stepQ_lv (lv_cl1 T0 rfl rfl rfl rcA raA) rfl rfl⟩
  apply parW_op (ds := [16, 47]) rfl rfl rfl rfl (by kernel_rfl)
  · exact .inl ⟨wtS, stepQ_pv (pv_fa T0 rfl rfl rfl (by simp; rfl)) rfl rfl⟩
  apply parW_op (ds := [50, 47]) rfl rfl rfl rfl (by kernel_rfl)
  · exact .inl ⟨wtS, stepQ_lv (lv_cl1 T0 rfl rfl rfl rcA raA) rfl rfl⟩
  apply parW_op (ds := [49, 51, 47]) rfl rfl rfl rfl (by kernel_rfl)
  · exact .inl ⟨wtS, stepQ_pv (pv_eql rfl rfl rfl) rfl rfl⟩
  apply parW_op (ds := [47, 52]) rfl rfl rfl rfl (by kernel_rfl)
  · exact .inl ⟨(wt_none rfl), stepQ_pv (pv_pick_f rfl rfl tfA rfl) rfl rfl⟩
  apply parW_op (ds := [53]) rfl rfl rfl rfl (by kernel_rfl)
  · exact .inl ⟨(wt_none rfl), stepQ_pv (pv_move rfl rfl) rfl rfl⟩
  apply parW_op (ds := [16, 54]) rfl rfl rfl rfl (by kernel_rfl)
  · exact .inl ⟨wtS, stepQ_pv (pv_fa T0 rfl rfl rfl (by simp; rfl)) rfl rfl⟩
  apply parW_op (ds := [55, 54]) rfl rfl rfl rfl (by kernel_rfl)
  · exact .inl ⟨wtS, stepQ_lv (lv_cl1 T0 rfl rfl rfl rcA raA) rfl rfl⟩
  apply parW_op (ds := [10, 54]) rfl rfl rfl rfl (by kernel_rfl)
  · exact .inl ⟨wtS, stepQ_pv (pv_move rfl rfl) rfl rfl⟩
  apply parW_op (ds := [16, 54]) rfl rfl rfl rfl (by kernel_rfl)
  · exact .inl ⟨wtS, stepQ_pv (pv_fa T0 rfl rfl rfl (by simp; rfl)) rfl rfl⟩
  apply parW_op (ds := [58, 54]) rfl rfl rfl rfl (by kernel_rfl)
  · exact .inl ⟨wtS, stepQ_lv (lv_cl1 T0 rfl rfl rfl rcA raA) rfl rfl⟩
  apply parW_op (ds := [57, 59, 54]) rfl rfl rfl rfl (by kernel_rfl)
  · exact .inl ⟨wtS, stepQ_pv (pv_ix_own T0 rfl rfl rfl rfl (by omega) ixA) rfl rfl⟩
  apply parW_op (ds := [60, 54]) rfl rfl rfl rfl (by kernel_rfl)
  · exact .inl ⟨wtS, stepQ_lv (lv_rp T0 rfl rfl rfl rcA (by first | omega | (simp; omega)) (by omega) (by first | assumption | rfl)) rfl rfl⟩
  apply parW_op (ds := [56, 61, 54]) rfl rfl rfl rfl (by kernel_rfl)
  · refine .inl ⟨wtS, ?_⟩
    refine st_call T0 (within_q hr) rfl rfl rfl rfl (by first | exact callee_lit | exact callee_v | exact callee_fn | assumption) rcA raA rfl ?_
    rintro _ rfl
    exact ⟨_, Ghost.refl, rfl⟩
  apply parW_op (ds := [62, 54]) rfl rfl rfl rfl (by kernel_rfl)
  · exact .inl ⟨wtS, stepQ_pv (pv_not rfl rfl) rfl rfl⟩
  apply parW_op (ds := [54, 63]) rfl rfl rfl rfl (by kernel_rfl)
  · exact .inl ⟨(wt_none rfl), stepQ_pv (pv_pick_f rfl rfl tfA rfl) rfl rfl⟩
  refine parW_nil ?_
  exact cut_n ⟨rfl, rfl⟩ ssA (SubH.refl _)
theorem ja_12 (hf : f < n) (hn : n ≤ 6) (hs : 0 ≤ sp f ∧ sp f ≤ 2000) (hx : 1 ≤ x ∧ x ≤ sp f) (hq : ∀ q, nd q = if q = f then sp f - x else sp q) {ops : Array Oper} (h : regF Try.f43 12 = some ops) :
    AWP Try.prog Try.f43.ntmps none (.region 12 ops true) (cutQ (fun s h => s = [(3, u3), (4, .v (ptrV g4)), (10, .v (.slice (some ⟨gs, 0, none⟩) n c2)), (12, u12), (13, u13), (14, u14), (16, .v (ptrV g16)), (29, u29), (30, u30), (31, u31)] ∧ h = .rw (.slice (some ⟨gs, 0, none⟩) n c2) 3 1 (fRows nd n) :: .cl g16 71 [intA f, intA b, intA x] :: rest))
      [(3, u3), (4, .v (ptrV g4)), (10, .v (.slice (some ⟨gs, 0, none⟩) n c2)), (12, u12), (13, u13), (14, u14), (16, .v (ptrV g16)), (29, u29), (30, u30), (31, u31)] (.rw (.slice (some ⟨gs, 0, none⟩) n c2) 3 1 (fRows sp n) :: .cl g16 71 [intA f, intA b, intA x] :: rest) := by
  cases h
  have r2 := fRows_at (f := sp) hf
  have r4 := fRows_len sp n
  have f1 := fRows_set (f := sp) (g := nd) (v := sp f - x) hf (fun q _ => hq q)
  refine awp_tree T0 [(0, 0), (1, 0), (2, 1), (3, 0), (4, 1), (5, 0), (6, 1), (7, 0), (8, 0), (9, 3)] (.op 0 0 (.op 1 0 (.op 2 1 (.op 3 0 (.op 4 1 (.op 5 0 (.op 6 1 (.op 7 0 (.op 8 0 (.op 9 3 .stop)))))))))) [.cl g16 _ _, .rw (.slice (some ⟨gs, 0, none⟩) n c2) _ _ _] rfl (by kernel_rfl) rcA ?_
  refine awt_po rfl (wt_none rfl) (pv_move rfl rfl) rfl rfl ?_
  refine awt_po rfl (wt_none rfl) (pv_fa T0 rfl rfl rfl (by simp; rfl)) rfl rfl ?_
  refine awt_lo rfl (wt_none rfl) (lv_cl1 T0 rfl rfl rfl rcA raA) rfl rfl rfl ?_
  refine awt_po rfl (wt_none rfl) (pv_ix_own T0 rfl rfl rfl rfl (by omega) ixA) rfl rfl ?_
  refine awt_lo rfl (wt_none rfl) (lv_rp T0 rfl rfl rfl rcA (by omega) (by decide) r2) rfl rfl rfl ?_
  refine awt_po rfl (wt_none rfl) (pv_fa T0 rfl rfl rfl (by simp; rfl)) rfl rfl ?_
  refine awt_lo rfl (wt_none rfl) (lv_cl1 T0 rfl rfl rfl rcA raA) rfl rfl rfl ?_
  refine awt_po rfl (wt_none rfl) (pv_sub rfl rfl rfl (by first | assumption | exact wr64 (by omega))) rfl rfl ?_
  refine awt_po rfl (wt_none rfl) (pv_ix_own T0 rfl rfl rfl rfl (by omega) ixA) rfl rfl ?_
  refine awt_s (md := fun _ => True) rfl (wt_none rfl) (aop_store_rp T0 rfl rfl rfl rfl rfl rfl rfl rfl rcA (by first | omega | (simp; omega)) (by omega) rfl trivial ?_)
  refine awe_end ?_
  simp only [cellsA]
  rw [f1]
  exact cut_n ⟨rfl, rfl⟩ ssA (SubH.refl _)
theorem ja_13 (hb : b < 6) (hd : -1000000000 ≤ nd b ∧ nd b ≤ 1000000000) (hx : 0 ≤ x ∧ x ≤ 2000) (hq : ∀ q, q < 6 → nd' q = if q = b then nd b - x else nd q) {ops : Array Oper} (h : regF Try.f43 13 = some ops) :
    AWP Try.prog Try.f43.ntmps none (.region 13 ops true) (cutQ (fun s h => s = [(3, u3), (4, .v (ptrV g4)), (10, u10), (12, .v (ptrV g12)), (13, u13), (14, u14), (16, .v (ptrV g16)), (29, u29), (30, u30), (31, u31)] ∧ h = .cl g16 71 [intA f, intA b, intA x] :: .cl g12 127 (arrI nd' 6) :: rest))
      [(3, u3), (4, .v (ptrV g4)), (10, u10), (12, .v (ptrV g12)), (13, u13), (14, u14), (16, .v (ptrV g16)), (29, u29), (30, u30), (31, u31)] (.cl g16 71 [intA f, intA b, intA x] :: .cl g12 127 (arrI nd 6) :: rest) := by
  cases h
  have r1 : (arrI nd 6)[b]? = some (intA (nd b)) := arrI_at hb
  refine awp_tree T0 [(0, 0), (1, 1), (2, 0), (4, 0), (5, 1), (3, 2), (6, 0), (7, 0), (8, 3)] (.op 0 0 (.op 1 1 (.op 2 0 (.op 4 0 (.op 5 1 (.op 3 2 (.op 6 0 (.op 7 0 (.op 8 3 .stop))))))))) [.cl g16 _ _] rfl (by kernel_rfl) rcA ?_
  refine awt_po rfl (wt_none rfl) (pv_fa T0 rfl rfl rfl (by simp; rfl)) rfl rfl ?_
  refine awt_lo rfl (wt_none rfl) (lv_cl1 T0 rfl rfl rfl rcA raA) rfl rfl rfl ?_
  refine awt_po rfl (wt_none rfl) (pv_ix_arr T0 rfl rfl rfl rfl (by omega) (by simp; rfl)) rfl rfl ?_
  refine awt_po rfl (wt_none rfl) (pv_fa T0 rfl rfl rfl (by simp; rfl)) rfl rfl ?_
  refine awt_lo rfl (wt_none rfl) (lv_cl1 T0 rfl rfl rfl rcA raA) rfl rfl rfl ?_
  refine awt_h (hm := []) rfl (wt_none rfl) rcA rfl (aop_lv (lv_cl1 T0 rfl rfl rfl rcA r1) rfl (blt_lt rfl) ?_)
  refine awt_n1 rfl (wt_none rfl) (pv_sub rfl rfl rfl (by first | assumption | exact wr64 (by omega))) rfl rfl rfl ?_
  refine awt_po rfl (wt_none rfl) (pv_ix_arr T0 rfl rfl rfl rfl (by omega) (by simp; rfl)) rfl rfl ?_
  refine awt_s (md := fun _ => True) rfl (wt_none rfl) (st_arrI T0 rfl rfl rfl rfl rfl rcA hb hq trivial ?_)
  refine awe_end ?_
  exact cut_n ⟨rfl, rfl⟩ ssA (SubH.refl _)
theorem ja_14 (hf : f < m.hou.length) (hl : m.hou.length ≤ 1000) (hx : 0 ≤ x * (m.hou.getD f default).ask ∧ x * (m.hou.getD f default).ask ≤ 2000000) (hc : 0 ≤ sum ∧ sum ≤ 1000000000000) {ops : Array Oper} (h : regF Try.f43 14 = some ops) :
    AWP Try.prog Try.f43.ntmps none (.region 14 ops true) (cutQ (fun s h => s = [(14, intA (sum + x * (m.hou.getD f default).ask)), (3, u3), (4, .v (ptrV g4)), (10, u10), (12, u12), (13, u13), (29, u29), (30, u30), (31, u31)] ∧ h = .cl g16 71 [intA f, intA b, intA x] :: mkE g4 cp cc m :: rest))
      [(3, u3), (4, .v (ptrV g4)), (10, u10), (12, u12), (13, u13), (14, intA sum), (16, .v (ptrV g16)), (29, u29), (30, u30), (31, u31)] (.cl g16 71 [intA f, intA b, intA x] :: mkE g4 cp cc m :: rest) := by
  cases h
  have w1 : IntKind.i64.wrap (x * (m.hou.getD f default).ask) = x * (m.hou.getD f default).ask := wr64 (by omega)
  refine awp_tree T0 [(0, 0), (1, 0), (2, 1), (3, 0), (4, 1), (5, 0), (6, 1), (7, 0), (8, 0), (9, 1), (10, 0), (11, 0), (12, 0)] (.op 0 0 (.op 1 0 (.op 2 1 (.op 3 0 (.op 4 1 (.op 5 0 (.op 6 1 (.op 7 0 (.op 8 0 (.op 9 1 (.op 10 0 (.op 11 0 (.op 12 0 .stop))))))))))))) [.cl g16 _ _, mkE g4 cp cc m] rfl (by kernel_rfl) rcA ?_
  refine awt_po rfl (wt_none rfl) (pv_move rfl rfl) rfl rfl ?_
  refine awt_po rfl (wt_none rfl) (pv_fa T0 rfl rfl rfl (by simp; rfl)) rfl rfl ?_
  refine awt_lo rfl (wt_none rfl) (lv_cl1 T0 rfl rfl rfl rcA raA) rfl rfl rfl ?_
  refine awt_po rfl (wt_none rfl) (pv_fa T0 rfl rfl rfl (by simp; rfl)) rfl rfl ?_
  refine awt_lo rfl (wt_none rfl) (lv_cl1 T0 rfl rfl rfl rcA raA) rfl rfl rfl ?_
  refine awt_po rfl (wt_none rfl) (pv_fa T0 rfl rfl rfl (by simp; rfl)) rfl rfl ?_
  refine awt_lo rfl (wt_none rfl) (lv_cl1 T0 rfl rfl rfl rcA raA) rfl rfl rfl ?_
  refine awt_po rfl (wt_none rfl) (pv_ix_t T0 rfl rfl rfl rfl (by omega) ixA) rfl rfl ?_
  refine awt_po rfl (wt_none rfl) (pv_fa_elt T0 rfl rfl rfl (by simp; rfl)) rfl rfl ?_
  refine awt_lo rfl (wt_none rfl) (lv_elt_sc T0 rfl rfl rfl rfl) rfl rfl rfl ?_
  refine awt_po rfl (wt_none rfl) (pv_mul rfl rfl rfl (by first | assumption | exact wr64 (by omega))) rfl rfl ?_
  refine awt_po rfl (wt_none rfl) (pv_add rfl rfl rfl (by first | assumption | exact wr64 (by omega))) rfl rfl ?_
  refine awt_po rfl (wt_none rfl) (pv_assign rfl rfl) rfl rfl ?_
  refine awt_end ?_
  exact cut_n ⟨rfl, rfl⟩ ssA (SubH.refl _)
end
end Go.Proofs.Ytallicfckbdeaaa
