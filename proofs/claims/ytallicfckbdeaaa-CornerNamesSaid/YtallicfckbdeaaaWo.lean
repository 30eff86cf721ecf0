/- A truth with the least lack: the walk of truth (Try.func71), and Show. -/
import Derived.Test.YtallicfckbdeaaaGWk
import Derived.Test.YtallicfckbdeaaaGPa
namespace Go.Proofs.Ytallicfckbdeaaa
open Go Go.RowKit Go.Tl
set_option linter.unusedVariables false
set_option linter.unusedSimpArgs false
set_option maxRecDepth 100000
set_option maxHeartbeats 4000000
attribute [local irreducible] AWP AWL AOp PV LV AWT AWE
section
variable {gw gm g5 fn s k : Nat} {cp cc : Bool} {m : MktD} {d : Nat → Int} {best n3 n7 n8 bd : Int} {l : List ((Int × Int) × AV)} {hh : HouD} {u2 u18 : AV} {of : HouD → Int → Int} {e : Ent}
theorem wo_10n {ops : Array Oper} (h : regF Try.f71 10 = some ops) :
    AWP Try.prog Try.f71.ntmps none (.region 10 ops true) (cutQ (fun s' h => s' = [(70, boolA false), (0, .v (ptrV gw)), (2, u2), (3, intA n3), (4, intA s), (5, .v (ptrV g5)), (6, intA best), (7, intA n7), (18, u18), (19, intA bd), (20, intA k)] ∧ h = [wkE gw gm fn cp cc m d, mapG spV gm l, .cl g5 73 [intA hh.lo, intA hh.hi, boolA hh.sells, intA hh.ask], e]))
      [(0, .v (ptrV gw)), (2, u2), (3, intA n3), (4, intA s), (5, .v (ptrV g5)), (6, intA best), (7, intA n7), (8, intA never), (18, u18), (19, intA bd), (20, intA k)] [wkE gw gm fn cp cc m d, mapG spV gm l, .cl g5 73 [intA hh.lo, intA hh.hi, boolA hh.sells, intA hh.ask], e] := by
  cases h
  refine awp_par T0 (l := (0 :: 1 :: 2 :: 3 :: 4 :: 5 :: 6 :: 7 :: 8 :: 9 :: 10 :: 11 :: 12 :: 13 :: 14 :: 15 :: 16 :: 17 :: 18 :: 19 :: 20 :: 21 :: 22 :: [])) rfl (by kernel_rfl) (by kernel_rfl) ?_
  apply parW_op (ds := [8]) rfl rfl rfl rfl (by kernel_rfl)
  · exact .inl ⟨(wt_none rfl), stepQ_pv (pv_move rfl rfl) rfl rfl⟩
  apply parW_op (ds := [48]) rfl rfl rfl rfl (by kernel_rfl)
  · exact .inl ⟨(wt_none rfl), stepQ_pv (pv_neq rfl rfl rfl) rfl rfl⟩
  apply parW_op (ds := [49]) rfl rfl rfl rfl (by kernel_rfl)
  · exact .inl ⟨(wt_none rfl), stepQ_pv (pv_move rfl rfl) rfl rfl⟩
  apply parW_op (ds := [8, 50]) rfl rfl rfl rfl (by kernel_rfl)
  · exact .inr ⟨(wf_some rfl rfl rfl rfl tfA), rfl⟩
  apply parW_op (ds := [0, 50]) rfl rfl rfl rfl (by kernel_rfl)
  · exact .inr ⟨(wf_some rfl rfl rfl rfl tfA), rfl⟩
  apply parW_op (ds := [52, 50]) rfl rfl rfl rfl (by kernel_rfl)
  · exact .inr ⟨(wf_some rfl rfl rfl rfl tfA), rfl⟩
  apply parW_op (ds := [53, 50]) rfl rfl rfl rfl (by kernel_rfl)
  · exact .inr ⟨(wf_some rfl rfl rfl rfl tfA), rfl⟩
  apply parW_op (ds := [54, 50]) rfl rfl rfl rfl (by kernel_rfl)
  · exact .inr ⟨(wf_some rfl rfl rfl rfl tfA), rfl⟩
  apply parW_op (ds := [55, 50]) rfl rfl rfl rfl (by kernel_rfl)
  · exact .inr ⟨(wf_some rfl rfl rfl rfl tfA), rfl⟩
  apply parW_op (ds := [5, 50]) rfl rfl rfl rfl (by kernel_rfl)
  · exact .inr ⟨(wf_some rfl rfl rfl rfl tfA), rfl⟩
  apply parW_op (ds := [0, 50]) rfl rfl rfl rfl (by kernel_rfl)
  · exact .inr ⟨(wf_some rfl rfl rfl rfl tfA), rfl⟩
  apply parW_op (ds := [4, 50]) rfl rfl rfl rfl (by kernel_rfl)
  · exact .inr ⟨(wf_some rfl rfl rfl rfl tfA), rfl⟩
  apply parW_op (ds := [58, 50]) rfl rfl rfl rfl (by kernel_rfl)
  · exact .inr ⟨(wf_some rfl rfl rfl rfl tfA), rfl⟩
  apply parW_op (ds := [60, 50]) rfl rfl rfl rfl (by kernel_rfl)
  · exact .inr ⟨(wf_some rfl rfl rfl rfl tfA), rfl⟩
  apply parW_op (ds := [61, 59, 50]) rfl rfl rfl rfl (by kernel_rfl)
  · exact .inr ⟨(wf_some rfl rfl rfl rfl tfA), rfl⟩
  apply parW_op (ds := [62, 50]) rfl rfl rfl rfl (by kernel_rfl)
  · exact .inr ⟨(wf_some rfl rfl rfl rfl tfA), rfl⟩
  apply parW_op (ds := [7, 50]) rfl rfl rfl rfl (by kernel_rfl)
  · exact .inr ⟨(wf_some rfl rfl rfl rfl tfA), rfl⟩
  apply parW_op (ds := [63, 64, 50]) rfl rfl rfl rfl (by kernel_rfl)
  · exact .inr ⟨(wf_some rfl rfl rfl rfl tfA), rfl⟩
  apply parW_op (ds := [56, 57, 65, 50]) rfl rfl rfl rfl (by kernel_rfl)
  · exact .inr ⟨(wf_some rfl rfl rfl rfl tfA), rfl⟩
  apply parW_op (ds := [51, 66, 50]) rfl rfl rfl rfl (by kernel_rfl)
  · exact .inr ⟨(wf_some rfl rfl rfl rfl tfA), rfl⟩
  apply parW_op (ds := [6, 50]) rfl rfl rfl rfl (by kernel_rfl)
  · exact .inr ⟨(wf_some rfl rfl rfl rfl tfA), rfl⟩
  apply parW_op (ds := [67, 68, 50]) rfl rfl rfl rfl (by kernel_rfl)
  · exact .inr ⟨(wf_some rfl rfl rfl rfl tfA), rfl⟩
  apply parW_op (ds := [50, 69]) rfl rfl rfl rfl (by kernel_rfl)
  · exact .inl ⟨(wt_none rfl), stepQ_pv (pv_pick_f rfl rfl tfA rfl) rfl rfl⟩
  refine parW_nil ?_
  exact cut_n ⟨rfl, rfl⟩ ssA rcA
theorem wo_10y (hC : ∀ h p, -1600 ≤ p → p ≤ 1800 → PCall Try.prog fn [houA h, intA p] (fun r => r = intA (of h p))) (hk : LkOk of d) (hfn : T0.fns.any fn.beq = true) (hs : s < 6) (h7 : 0 ≤ n7 ∧ n7 ≤ 200) (h8 : -12000 ≤ n8 ∧ n8 ≤ 12000) (hne : n8 ≠ never) {ops : Array Oper} (h : regF Try.f71 10 = some ops) :
    AWP Try.prog Try.f71.ntmps none (.region 10 ops true) (cutQ (fun s' h => s' = [(70, boolA (decide (n8 + of hh (d s + n7) = best))), (0, .v (ptrV gw)), (2, u2), (3, intA n3), (4, intA s), (5, .v (ptrV g5)), (6, intA best), (7, intA n7), (18, u18), (19, intA bd), (20, intA k)] ∧ h = [wkE gw gm fn cp cc m d, mapG spV gm l, .cl g5 73 [intA hh.lo, intA hh.hi, boolA hh.sells, intA hh.ask], e]))
      [(0, .v (ptrV gw)), (2, u2), (3, intA n3), (4, intA s), (5, .v (ptrV g5)), (6, intA best), (7, intA n7), (8, intA n8), (18, u18), (19, intA bd), (20, intA k)] [wkE gw gm fn cp cc m d, mapG spV gm l, .cl g5 73 [intA hh.lo, intA hh.hi, boolA hh.sells, intA hh.ask], e] := by
  cases h
  have r1 : (wkC cp cc m d fn gm)[3 + s]? = some (intA (d s)) := wkC_at hs
  have hd := hk.ow s
  have ho := hk.of hh (d s + n7) (by omega) (by omega)
  have hC1 := hC hh (d s + n7) (by omega) (by omega)
  have d1 := decide_eq_true hne
  refine awp_par T0 (l := (0 :: 1 :: 2 :: 3 :: 4 :: 5 :: 6 :: 7 :: 8 :: 9 :: 10 :: 11 :: 12 :: 13 :: 14 :: 15 :: 16 :: 17 :: 18 :: 19 :: 20 :: 21 :: 22 :: [])) rfl (by kernel_rfl) (by kernel_rfl) ?_
  apply parW_op (ds := [8]) rfl rfl rfl rfl (by kernel_rfl)
  · exact .inl ⟨(wt_none rfl), stepQ_pv (pv_move rfl rfl) rfl rfl⟩
  apply parW_op (ds := [48]) rfl rfl rfl rfl (by kernel_rfl)
  · exact .inl ⟨(wt_none rfl), stepQ_pv (pv_neq rfl rfl rfl) rfl rfl⟩
  apply parW_op (ds := [49]) rfl rfl rfl rfl (by kernel_rfl)
  · exact .inl ⟨(wt_none rfl), stepQ_pv (pv_move rfl rfl) rfl rfl⟩
  apply parW_op (ds := [8, 50]) rfl rfl rfl rfl (by kernel_rfl)
  · exact .inl ⟨wtS, stepQ_pv (pv_move rfl rfl) rfl rfl⟩
  apply parW_op (ds := [0, 50]) rfl rfl rfl rfl (by kernel_rfl)
  · exact .inl ⟨wtS, stepQ_pv (pv_move rfl rfl) rfl rfl⟩
  apply parW_op (ds := [52, 50]) rfl rfl rfl rfl (by kernel_rfl)
  · exact .inl ⟨wtS, stepQ_pv (pv_nilCheck rfl rfl) rfl rfl⟩
  apply parW_op (ds := [53, 50]) rfl rfl rfl rfl (by kernel_rfl)
  · exact .inl ⟨wtS, stepQ_pv (pv_fa T0 rfl rfl rfl (by simp; rfl)) rfl rfl⟩
  apply parW_op (ds := [54, 50]) rfl rfl rfl rfl (by kernel_rfl)
  · exact .inl ⟨wtS, stepQ_pv (pv_fa T0 rfl rfl rfl (by simp; rfl)) rfl rfl⟩
  apply parW_op (ds := [55, 50]) rfl rfl rfl rfl (by kernel_rfl)
  · exact .inl ⟨wtS, stepQ_lv (lv_cl1 T0 rfl rfl rfl rcA raA) rfl rfl⟩
  apply parW_op (ds := [5, 50]) rfl rfl rfl rfl (by kernel_rfl)
  · exact .inl ⟨wtS, stepQ_lv (lv_cla T0 rfl rfl rfl rcA rfl) rfl rfl⟩
  apply parW_op (ds := [0, 50]) rfl rfl rfl rfl (by kernel_rfl)
  · exact .inl ⟨wtS, stepQ_pv (pv_move rfl rfl) rfl rfl⟩
  apply parW_op (ds := [4, 50]) rfl rfl rfl rfl (by kernel_rfl)
  · exact .inl ⟨wtS, stepQ_pv (pv_move rfl rfl) rfl rfl⟩
  apply parW_op (ds := [58, 50]) rfl rfl rfl rfl (by kernel_rfl)
  · exact .inl ⟨wtS, stepQ_pv (pv_nilCheck rfl rfl) rfl rfl⟩
  apply parW_op (ds := [60, 50]) rfl rfl rfl rfl (by kernel_rfl)
  · exact .inl ⟨wtS, stepQ_pv (pv_fa T0 rfl rfl rfl (by simp; rfl)) rfl rfl⟩
  apply parW_op (ds := [61, 59, 50]) rfl rfl rfl rfl (by kernel_rfl)
  · exact .inl ⟨wtS, stepQ_pv (pv_ix_arr T0 rfl rfl rfl rfl (by omega) (by simp; rfl)) rfl rfl⟩
  apply parW_op (ds := [62, 50]) rfl rfl rfl rfl (by kernel_rfl)
  · exact .inl ⟨wtS, stepQ_lv (lv_cl1 T0 rfl rfl rfl rcA raA) rfl rfl⟩
  apply parW_op (ds := [7, 50]) rfl rfl rfl rfl (by kernel_rfl)
  · exact .inl ⟨wtS, stepQ_pv (pv_move rfl rfl) rfl rfl⟩
  apply parW_op (ds := [63, 64, 50]) rfl rfl rfl rfl (by kernel_rfl)
  · exact .inl ⟨wtS, stepQ_pv (pv_add rfl rfl rfl (by first | assumption | exact wr64 (by omega))) rfl rfl⟩
  apply parW_op (ds := [56, 57, 65, 50]) rfl rfl rfl rfl (by kernel_rfl)
  · refine .inl ⟨wtS, ?_⟩
    refine st_call T0 (hC1) rfl rfl rfl rfl (by first | exact callee_lit | exact callee_v | exact callee_fn | assumption) rcA raA rfl ?_
    rintro _ rfl
    exact ⟨_, Ghost.refl, rfl⟩
  apply parW_op (ds := [51, 66, 50]) rfl rfl rfl rfl (by kernel_rfl)
  · exact .inl ⟨wtS, stepQ_pv (pv_add rfl rfl rfl (by first | assumption | exact wr64 (by omega))) rfl rfl⟩
  apply parW_op (ds := [6, 50]) rfl rfl rfl rfl (by kernel_rfl)
  · exact .inl ⟨wtS, stepQ_pv (pv_move rfl rfl) rfl rfl⟩
  apply parW_op (ds := [67, 68, 50]) rfl rfl rfl rfl (by kernel_rfl)
  · exact .inl ⟨wtS, stepQ_pv (pv_eql rfl rfl rfl) rfl rfl⟩
  apply parW_op (ds := [50, 69]) rfl rfl rfl rfl (by kernel_rfl)
  · exact .inl ⟨(wt_none rfl), stepQ_pv (pv_pick_t rfl rfl tfA rfl) rfl rfl⟩
  refine parW_nil ?_
  exact cut_n ⟨rfl, rfl⟩ ssA rcA
end
/-- a truth so far -/
structure TrI (of : HouD → Int → Int) (m : MktD) (k : Nat) (ts : List Int) (left P : Int) : Prop where
  len : ts.length = k
  bd : 0 ≤ left ∧ left ≤ 200
  ne : leastV of m k left ≠ never
  fit : ∀ t', fitP (m.hou.drop k) left t' → fitP m.hou m.ex (ts ++ t') ∧ lackS of (owedN m) m.hou 0 (ts ++ t') = P + lackS of (owedN m) (m.hou.drop k) k t'
  sum : P + leastV of m k left = leastV of m 0 m.ex
theorem tr_zero {of : HouD → Int → Int} {m : MktD} (hv : VMkt m) (hne : leastV of m 0 m.ex ≠ never) : TrI of m 0 [] m.ex 0 :=
  ⟨rfl, by have := hv.ex; omega, hne, fun t' ht => by rw [List.drop_zero] at ht ⊢; exact ⟨ht, by rw [List.nil_append, Int.zero_add]⟩, Int.zero_add _⟩
theorem tr_step {of : HouD → Int → Int} {m : MktD} {k j : Nat} {ts : List Int} {left P : Int} {he : HouD} (hv : VMkt m) (h : TrI of m k ts left P) (hk : k < m.hou.length) (hhe : m.hou.getD k default = he) (hj : he.lo + j ≤ he.hi ∧ he.lo + j ≤ left)
    (h1 : leastV of m (k + 1) (left - (he.lo + j)) ≠ never) (h2 : leastV of m (k + 1) (left - (he.lo + j)) + of he (owedN m k + (he.lo + j)) = leastV of m k left) : TrI of m (k + 1) (ts ++ [he.lo + j]) (left - (he.lo + j)) (P + of he (owedN m k + (he.lo + j))) := by
  subst hhe
  have hb := hv.held k hk
  refine ⟨by simp [h.len], by have := h.bd; omega, h1, fun t' ht => ?_, by have := h.sum; omega⟩
  have hf := h.fit (((m.hou.getD k default).lo + (j : Int)) :: t') (by rw [drop_cons hk]; exact ⟨by omega, hj.1, ht⟩)
  rw [drop_cons hk] at hf
  simp only [lackS] at hf
  rw [List.append_assoc]
  exact ⟨hf.1, by rw [List.singleton_append, hf.2]; omega⟩
theorem tr_end {of : HouD → Int → Int} {m : MktD} {ts : List Int} {left P : Int} (h : TrI of m m.hou.length ts left P) : fitP m.hou m.ex ts ∧ lackS of (owedN m) m.hou 0 ts = leastV of m 0 m.ex := by
  have hne := h.ne
  rw [leastV_end] at hne
  by_cases c : left = 0
  · have hf := h.fit [] (by rw [List.drop_length]; exact c)
    rw [List.append_nil, List.drop_length] at hf
    refine ⟨hf.1, ?_⟩
    have hs := h.sum
    rw [leastV_end, if_pos c] at hs
    rw [hf.2]
    simp only [lackS]
    exact hs
  · rw [if_neg c] at hne
    exact absurd rfl hne
theorem truth_o {of : HouD → Int → Int} {fn : Nat} (gw gm : Nat) (cp cc : Bool) (m : MktD) (hv : VMkt m) (hC : LackOk of fn) (hk : LkOk of (owedN m)) (l : List ((Int × Int) × AV)) (hkn : KnOk of m l) (hne : leastV of m 0 m.ex ≠ never) :
    ACall Try.prog 71 [.v (ptrV gw)] [wkE gw gm fn cp cc m (owedN m), mapG spV gm l] (fun r h' => ∃ (t : List Int) (a : Option Addr) (c : Nat), (fitP m.hou m.ex t ∧ lackS of (owedN m) m.hou 0 t = leastV of m 0 m.ex) ∧ r = .v (.slice a m.hou.length c) ∧ h' = [.rw (.slice a m.hou.length c) 3 1 (t.map intRow)]) := by
  have hlen := hv.len
  have hlo := fun (n s : Nat) (left : Int) (l : List ((Int × Int) × AV)) (h1 : s + n = m.hou.length) => least_o gw gm cp cc m hv hC hk n s left l h1
  refine acall_of_awp T0 Try.func71 rfl rfl rfl ?_
  repeat (first | refine awp_seq ?_ | refine awp_block ?_ | refine awp_region_lit rfl ?_ | ((first | (show AWL _ _ _ (⟨_, .move _, _, _, _, _⟩ :: _) _ _ _; refine awl_pw ?wtq (pv_move rfl rfl) rfl rfl ?_) | (show AWL _ _ _ (⟨_, .assign _, _, _, _, _⟩ :: _) _ _ _; refine awl_pw ?wtq (pv_assign rfl rfl) rfl rfl ?_) | (show AWL _ _ _ (⟨_, .load _ _, _, _, _, _⟩ :: _) _ _ _; refine awl_lw ?wtq (lv_cl1 T0 rfl rfl rfl rcA raA) rfl rfl rfl ?_) | (show AWL _ _ _ (⟨_, .fieldAddr _ _ _, _, _, _, _⟩ :: _) _ _ _; refine awl_pw ?wtq (pv_fa T0 rfl rfl rfl (by simp; rfl)) rfl rfl ?_) | (show AWL _ _ _ (⟨_, .call ⟨.builtin .len, _, _⟩, _, _, _, _⟩ :: _) _ _ _; refine awl_pw ?wtq (pv_len_t T0 rfl rfl rfl) rfl rfl ?_) | (show AWL _ _ _ (⟨_, .nilCheck _, _, _, _, _⟩ :: _) _ _ _; refine awl_pw ?wtq (pv_nilCheck rfl rfl) rfl rfl ?_)); case wtq => exact wtA) | refine awl_nil ?_)
  refine awp_ghost (ghost_nilrow 3 1) ?_
  refine awp_loop (fun q s h => ∃ (k : Nat) (a : Option Addr) (c : Nat) (ts : List Int) (left P : Int) (l' : List ((Int × Int) × AV)), k ≤ m.hou.length ∧ q = m.hou.length - k ∧ TrI of m k ts left P ∧ KnOk of m l' ∧ s = [(0, .v (ptrV gw)), (2, .v (.slice a k c)), (3, intA left), (18, .t (housT cp m.hou)), (19, intA m.hou.length), (20, intA k)] ∧ h = [wkE gw gm fn cp cc m (owedN m), mapG spV gm l', .rw (.slice a k c) 3 1 (ts.map intRow)]) ?_ ⟨0, _, _, [], m.ex, 0, l, Nat.zero_le _, rfl, tr_zero hv hne, hkn, rfl, rfl⟩ ssA rcA
  rintro q s h ⟨k, a, c, ts, left, P, l', hkb, rfl, hI, hkn', rfl, rfl⟩
  have hrl : (ts.map intRow).length = k := by rw [List.length_map, hI.len]
  by_cases hkt : k < m.hou.length
  case neg =>
    obtain rfl : k = m.hou.length := by omega
    repeat (first | refine awp_seq ?_ | refine awp_region_lit rfl ?_ | refine awp_exit ?_ | refine awp_ret ?_ | refine awp_cond_f rfl (by first | rfl | assumption | exact dF (by omega)) ?_ | ((first | (show AWL _ _ _ (⟨_, .move _, _, _, _, _⟩ :: _) _ _ _; refine awl_pw ?wtq (pv_move rfl rfl) rfl rfl ?_) | (show AWL _ _ _ (⟨_, .assign _, _, _, _, _⟩ :: _) _ _ _; refine awl_pw ?wtq (pv_assign rfl rfl) rfl rfl ?_) | (show AWL _ _ _ (⟨_, .binOp .lss _ _ _ _, _, _, _, _⟩ :: _) _ _ _; refine awl_pw ?wtq (pv_lss rfl rfl rfl) rfl rfl ?_)); case wtq => exact wtA) | refine awl_nil ?_)
    exact body_r (h' := [.rw (.slice a m.hou.length c) 3 1 (ts.map intRow)]) (.cons rfl .nil) rcA ⟨ts, a, c, tr_end hI, rfl, rfl⟩
  have hh := hv.held k hkt
  have hl200 := hI.bd
  have hbd : ∀ left, leastV of m (k + 1) left = never ∨ (-12000 ≤ leastV of m (k + 1) left ∧ leastV of m (k + 1) left ≤ 12000) := fun left => least_bd hk (m.hou.drop (k + 1)) (k + 1) left (hs_drop hv _) (by rw [List.length_drop]; omega)
  have hst := leastV_step (of := of) (left := left) hkt
  rcases foldK_at (fun j : Nat => leastV of m (k + 1) (left - ((m.hou.getD k default).lo + j))) (fun j : Nat => of (m.hou.getD k default) (owedN m k + ((m.hou.getD k default).lo + j))) (min (m.hou.getD k default).hi left - (m.hou.getD k default).lo + 1).toNat with hfn | ⟨J, hJ, hJ1, hJ2⟩
  · exact absurd (hst.trans hfn) hI.ne
  rw [← hst] at hJ2
  have hcall : ∀ (left : Int) (l : List ((Int × Int) × AV)), 0 ≤ left ∧ left ≤ 200 → KnOk of m l → ACall Try.prog 92 [.v (ptrV gw), .ag [intA ((k : Int) + 1), intA left]] [wkE gw gm fn cp cc m (owedN m), mapG spV gm l] (fun r h' => r = intA (leastV of m (k + 1) left) ∧ ∃ l', KnOk of m l' ∧ h' = [wkE gw gm fn cp cc m (owedN m), mapG spV gm l']) := fun left l => hlo (m.hou.length - (k + 1)) (k + 1) left l (by omega)
  repeat (first | refine awp_seq ?_ | refine awp_block ?_ | refine awp_region_lit rfl ?_ | refine awp_skip ?_ | refine awp_cond_t rfl (by first | rfl | assumption | exact dT (by omega)) ?_ | ((first | (show AWL _ _ _ (⟨_, .move _, _, _, _, _⟩ :: _) _ _ _; refine awl_pw ?wtq (pv_move rfl rfl) rfl rfl ?_) | (show AWL _ _ _ (⟨_, .load _ _, _, _, _, _⟩ :: _) _ _ _; refine awl_lw ?wtq (lv_elt_ag T0 rfl rfl rfl rfl rcA) rfl rfl rfl ?_) | (show AWL _ _ _ (⟨_, .indexAddr _ _ _, _, _, _, _⟩ :: _) _ _ _; refine awl_pw ?wtq (pv_ix_t T0 rfl rfl rfl rfl (by omega) ixA) rfl rfl ?_) | (show AWL _ _ _ (⟨_, .binOp .lss _ _ _ _, _, _, _, _⟩ :: _) _ _ _; refine awl_pw ?wtq (pv_lss rfl rfl rfl) rfl rfl ?_)); case wtq => exact wtA) | refine awl_nil ?_)
  refine awl_hw wtA (st_alloc T0 rfl rfl rfl rfl scA ?_)
  intro g5
  repeat (first | refine awp_seq ?_ | refine awp_region_lit rfl ?_ | ((first | (show AWL _ _ _ (⟨_, .move _, _, _, _, _⟩ :: _) _ _ _; refine awl_pw ?wtq (pv_move rfl rfl) rfl rfl ?_) | (show AWL _ _ _ (⟨_, .assign _, _, _, _, _⟩ :: _) _ _ _; refine awl_pw ?wtq (pv_assign rfl rfl) rfl rfl ?_) | (show AWL _ _ _ (⟨_, .build _ _, _, _, _, _⟩ :: _) _ _ _; refine awl_pw ?wtq (pv_build T0 rfl rfl rfl scA (by first | ((repeat' (first | exact BParts.nil | apply BParts.cons | rfl)); all_goals fail) | fail) (by first | ((repeat' (first | exact FillA.nil | exact Sp.done | apply FillA.cons | apply Sp.put | apply Sp.skip | (simp only [cellsA]; rfl) | rfl)); all_goals fail) | fail)) rfl rfl ?_)); case wtq => exact wtA) | (show AWL _ _ _ (⟨_, .store _ _ _, _, _, _, _⟩ :: _) _ _ _; refine awl_hw wtA (st_store T0 rfl rfl rfl rfl rfl (by first | assumption | (simp only [cellsA]; rfl)) rfl rfl rfl rcA rcA trivial ?_)) | refine awl_nil ?_)
  refine awl_hw wtA (st_acall T0 (hlo (m.hou.length - k) k left l' (by omega) hl200 hkn') rfl rfl rfl rfl (by first | exact callee_lit | exact callee_v | exact callee_fn | assumption) rcA raA rfl (by first | ((repeat' (first | exact SubH.refl _ | apply SubH.cons | exact Pick.here | apply Pick.there)); all_goals fail) | fail) (fun _ _ => trivial) ?_)
  rintro r h' ⟨rfl, l2, hk2, rfl⟩
  simp only [List.cons_append, List.nil_append]
  repeat (first | refine awp_seq ?_ | refine awp_block ?_ | refine awp_region_lit rfl ?_ | ((first | (show AWL _ _ _ (⟨_, .assign _, _, _, _, _⟩ :: _) _ _ _; refine awl_pw ?wtq (pv_assign rfl rfl) rfl rfl ?_) | (show AWL _ _ _ (⟨_, .load _ _, _, _, _, _⟩ :: _) _ _ _; refine awl_lw ?wtq (lv_cl1 T0 rfl rfl rfl rcA raA) rfl rfl rfl ?_) | (show AWL _ _ _ (⟨_, .fieldAddr _ _ _, _, _, _, _⟩ :: _) _ _ _; refine awl_pw ?wtq (pv_fa T0 rfl rfl rfl (by simp; rfl)) rfl rfl ?_)); case wtq => exact wtA) | refine awl_nil ?_)
  generalize hhe : m.hou.getD k default = he at *
  refine awp_cutX (fun s h => ∃ (j : Nat) (l3 : List ((Int × Int) × AV)), KnOk of m l3 ∧ (he.lo + j ≤ he.hi ∧ he.lo + j ≤ left) ∧ leastV of m (k + 1) (left - (he.lo + j)) ≠ never ∧ leastV of m (k + 1) (left - (he.lo + j)) + of he (owedN m k + (he.lo + j)) = leastV of m k left ∧ s = [(0, .v (ptrV gw)), (2, .v (.slice a k c)), (3, intA left), (7, intA (he.lo + j)), (18, .t (housT cp m.hou)), (19, intA m.hou.length), (20, intA k)] ∧ h = [wkE gw gm fn cp cc m (owedN m), mapG spV gm l3, .rw (.slice a k c) 3 1 (ts.map intRow)]) ?_ ?_
  rotate_left
  · rintro s h ⟨j, l3, hk3, hj1, hj2, hj3, rfl, rfl⟩
    have hI2 := tr_step hv hI hkt hhe hj1 hj2 hj3
    repeat (first | refine awp_region_lit rfl ?_ | ((first | (show AWL _ _ _ (⟨_, .move _, _, _, _, _⟩ :: _) _ _ _; refine awl_pw ?wtq (pv_move rfl rfl) rfl rfl ?_)); case wtq => exact wtA))
    refine awl_hw wtA (st_bsl T0 rfl rfl rfl rfl rfl rcA rfl rfl rfl rfl (by simp only [List.map_cons, List.map_nil, cellsA]; rfl) ?_)
    intro g73
    skip
    refine awl_hw wtA (st_app T0 rfl rfl rfl rfl rfl rfl rfl rfl rfl rcA rcA rfl rfl hrl (by omega) (fun _ _ => trivial) ?_)
    intro a74 c74 p74
    repeat (first | refine awp_region_lit rfl ?_ | ((first | (show AWL _ _ _ (⟨_, .move _, _, _, _, _⟩ :: _) _ _ _; refine awl_pw ?wtq (pv_move rfl rfl) rfl rfl ?_) | (show AWL _ _ _ (⟨_, .assign _, _, _, _, _⟩ :: _) _ _ _; refine awl_pw ?wtq (pv_assign rfl rfl) rfl rfl ?_) | (show AWL _ _ _ (⟨_, .binOp .add _ _ _ _, _, _, _, _⟩ :: _) _ _ _; refine awl_pw ?wtq (pv_add rfl rfl rfl (by first | assumption | exact wr64 (by omega))) rfl rfl ?_) | (show AWL _ _ _ (⟨_, .binOp .sub _ _ _ _, _, _, _, _⟩ :: _) _ _ _; refine awl_pw ?wtq (pv_sub rfl rfl rfl (by first | assumption | exact wr64 (by omega))) rfl rfl ?_)); case wtq => exact wtA) | refine awl_nil ?_)
    rw [show ts.map intRow ++ [[AV.v (Value.int IntKind.i64 (he.lo + (j : Int)))]] = (ts ++ [he.lo + (j : Int)]).map intRow from by rw [List.map_append]; rfl]
    refine rnd_n _ _ _ ?_ ⟨k + 1, a74, c74, _, _, _, l3, hkt, rfl, hI2, hk3, rfl, rfl⟩ ssA rcA
    omega
  refine awp_loop (fun q s h => ∃ (j : Nat) (l3 : List ((Int × Int) × AV)), j ≤ J ∧ q = J - j ∧ KnOk of m l3 ∧ s = [(0, .v (ptrV gw)), (2, .v (.slice a k c)), (3, intA left), (4, intA k), (5, .v (ptrV g5)), (6, intA (leastV of m k left)), (7, intA (he.lo + j)), (18, .t (housT cp m.hou)), (19, intA m.hou.length), (20, intA k)] ∧ h = [wkE gw gm fn cp cc m (owedN m), mapG spV gm l3, .cl g5 73 [intA he.lo, intA he.hi, boolA he.sells, intA he.ask], .rw (.slice a k c) 3 1 (ts.map intRow)]) ?_ ⟨0, l2, Nat.zero_le _, rfl, hk2, by rw [show he.lo + ((0 : Nat) : Int) = he.lo from Int.add_zero _], rfl⟩ ssA rcA
  rintro q s h ⟨j, l3, hjJ, rfl, hk3, rfl, rfl⟩
  by_cases hlt : he.lo + (j : Int) < he.hi
  case neg =>
    obtain rfl : j = J := by omega
    have d1 := decide_eq_false hlt
    repeat (first | refine awp_seq ?_ | refine awp_region_lit rfl ?_ | refine awp_exit ?_ | refine then_n ?_ | refine then_x ?_ | refine blk_x ?_ | refine rnd_x ?_ | refine awp_cond_f rfl (by first | rfl | assumption | exact dF (by omega)) ?_ | ((first | (show AWL _ _ _ (⟨_, .move _, _, _, _, _⟩ :: _) _ _ _; refine awl_pw ?wtq (pv_move rfl rfl) rfl rfl ?_) | (show AWL _ _ _ (⟨_, .load _ _, _, _, _, _⟩ :: _) _ _ _; refine awl_lw ?wtq (lv_cl1 T0 rfl rfl rfl rcA raA) rfl rfl rfl ?_) | (show AWL _ _ _ (⟨_, .fieldAddr _ _ _, _, _, _, _⟩ :: _) _ _ _; refine awl_pw ?wtq (pv_fa T0 rfl rfl rfl (by simp; rfl)) rfl rfl ?_) | (show AWL _ _ _ (⟨_, .binOp .lss _ _ _ _, _, _, _, _⟩ :: _) _ _ _; refine awl_pw ?wtq (pv_lss rfl rfl rfl) rfl rfl ?_)); case wtq => exact wtA) | refine awl_nil ?_)
    exact cut_n ⟨j, l3, hk3, by omega, hJ1, hJ2.symm, rfl, rfl⟩ ssA rcA
  have d1 := decide_eq_true hlt
  repeat (first | refine awp_seq ?_ | refine awp_block ?_ | refine awp_region_lit rfl ?_ | refine awp_skip ?_ | refine then_n ?_ | refine awp_cond_t rfl (by first | rfl | assumption | exact dT (by omega)) ?_ | ((first | (show AWL _ _ _ (⟨_, .move _, _, _, _, _⟩ :: _) _ _ _; refine awl_pw ?wtq (pv_move rfl rfl) rfl rfl ?_) | (show AWL _ _ _ (⟨_, .load _ _, _, _, _, _⟩ :: _) _ _ _; refine awl_lw ?wtq (lv_cl1 T0 rfl rfl rfl rcA raA) rfl rfl rfl ?_) | (show AWL _ _ _ (⟨_, .fieldAddr _ _ _, _, _, _, _⟩ :: _) _ _ _; refine awl_pw ?wtq (pv_fa T0 rfl rfl rfl (by simp; rfl)) rfl rfl ?_) | (show AWL _ _ _ (⟨_, .build _ _, _, _, _, _⟩ :: _) _ _ _; refine awl_pw ?wtq (pv_build T0 rfl rfl rfl scA (by first | ((repeat' (first | exact BParts.nil | apply BParts.cons | rfl)); all_goals fail) | fail) (by first | ((repeat' (first | exact FillA.nil | exact Sp.done | apply FillA.cons | apply Sp.put | apply Sp.skip | (simp only [cellsA]; rfl) | rfl)); all_goals fail) | fail)) rfl rfl ?_) | (show AWL _ _ _ (⟨_, .binOp .add _ _ _ _, _, _, _, _⟩ :: _) _ _ _; refine awl_pw ?wtq (pv_add rfl rfl rfl (by first | assumption | exact wr64 (by omega))) rfl rfl ?_) | (show AWL _ _ _ (⟨_, .binOp .sub _ _ _ _, _, _, _, _⟩ :: _) _ _ _; refine awl_pw ?wtq (pv_sub rfl rfl rfl (by first | assumption | exact wr64 (by omega))) rfl rfl ?_) | (show AWL _ _ _ (⟨_, .binOp .lss _ _ _ _, _, _, _, _⟩ :: _) _ _ _; refine awl_pw ?wtq (pv_lss rfl rfl rfl) rfl rfl ?_)); case wtq => exact wtA) | refine awl_nil ?_)
  refine awl_hw wtA (st_acall T0 (hcall (left - (he.lo + j)) l3 (by omega) hk3) rfl rfl rfl rfl (by first | exact callee_lit | exact callee_v | exact callee_fn | assumption) rcA raA rfl (by first | ((repeat' (first | exact SubH.refl _ | apply SubH.cons | exact Pick.here | apply Pick.there)); all_goals fail) | fail) (fun _ _ => trivial) ?_)
  rintro r h' ⟨rfl, l4, hk4, rfl⟩
  simp only [List.cons_append, List.nil_append]
  repeat (first | refine awp_seq ?_ | ((first | (show AWL _ _ _ (⟨_, .assign _, _, _, _, _⟩ :: _) _ _ _; refine awl_pw ?wtq (pv_assign rfl rfl) rfl rfl ?_)); case wtq => exact wtA) | refine awl_nil ?_)
  by_cases e : leastV of m (k + 1) (left - (he.lo + j)) = never
  · have hne2 : j ≠ J := fun h => by subst h; exact hJ1 e
    rw [e]
    refine awp_cut _ (awp_weak ssA rcA (wo_10n (gw := gw) (gm := gm) (g5 := g5) (fn := fn) (s := k) (k := k) (cp := cp) (cc := cc) (m := m) (d := owedN m) (best := leastV of m k left) (n3 := left) (n7 := he.lo + j) (bd := m.hou.length) (l := l4) (hh := he) (u2 := .v (.slice a k c)) (u18 := .t (housT cp m.hou)) (e := .rw (.slice a k c) 3 1 (ts.map intRow)) rfl)) ?_
    rintro s h ⟨rfl, rfl⟩
    repeat (first | refine awp_region_lit rfl ?_ | refine awp_skip ?_ | refine awp_cond_f rfl (by first | rfl | assumption | exact dF (by omega)) ?_ | ((first | (show AWL _ _ _ (⟨_, .move _, _, _, _, _⟩ :: _) _ _ _; refine awl_pw ?wtq (pv_move rfl rfl) rfl rfl ?_) | (show AWL _ _ _ (⟨_, .assign _, _, _, _, _⟩ :: _) _ _ _; refine awl_pw ?wtq (pv_assign rfl rfl) rfl rfl ?_) | (show AWL _ _ _ (⟨_, .binOp .add _ _ _ _, _, _, _, _⟩ :: _) _ _ _; refine awl_pw ?wtq (pv_add rfl rfl rfl (by first | assumption | exact wr64 (by omega))) rfl rfl ?_)); case wtq => exact wtA) | refine awl_nil ?_)
    refine rnd_n _ _ _ ?_ ⟨j + 1, l4, by omega, rfl, hk4, by rw [show he.lo + ((j + 1 : Nat) : Int) = he.lo + (j : Int) + 1 from by omega], rfl⟩ ssA rcA
    omega
  · have hb2 := (hbd (left - (he.lo + j))).resolve_left e
    refine awp_cut _ (awp_weak ssA rcA (wo_10y (gw := gw) (gm := gm) (g5 := g5) (fn := fn) (s := k) (k := k) (cp := cp) (cc := cc) (m := m) (d := owedN m) (best := leastV of m k left) (n3 := left) (n7 := he.lo + j) (n8 := leastV of m (k + 1) (left - (he.lo + j))) (bd := m.hou.length) (l := l4) (hh := he) (u2 := .v (.slice a k c)) (u18 := .t (housT cp m.hou)) (e := .rw (.slice a k c) 3 1 (ts.map intRow)) hC.call hk hC.fns (by omega) (by omega) hb2 e rfl)) ?_
    rintro s h ⟨rfl, rfl⟩
    cases e2 : decide (leastV of m (k + 1) (left - (he.lo + j)) + of he (owedN m k + (he.lo + j)) = leastV of m k left)
    · have hne2 : j ≠ J := fun h => by subst h; exact of_decide_eq_false e2 hJ2.symm
      repeat (first | refine awp_region_lit rfl ?_ | refine awp_skip ?_ | refine awp_cond_f rfl (by first | rfl | assumption | exact dF (by omega)) ?_ | ((first | (show AWL _ _ _ (⟨_, .move _, _, _, _, _⟩ :: _) _ _ _; refine awl_pw ?wtq (pv_move rfl rfl) rfl rfl ?_) | (show AWL _ _ _ (⟨_, .assign _, _, _, _, _⟩ :: _) _ _ _; refine awl_pw ?wtq (pv_assign rfl rfl) rfl rfl ?_) | (show AWL _ _ _ (⟨_, .binOp .add _ _ _ _, _, _, _, _⟩ :: _) _ _ _; refine awl_pw ?wtq (pv_add rfl rfl rfl (by first | assumption | exact wr64 (by omega))) rfl rfl ?_)); case wtq => exact wtA) | refine awl_nil ?_)
      refine rnd_n _ _ _ ?_ ⟨j + 1, l4, by omega, rfl, hk4, by rw [show he.lo + ((j + 1 : Nat) : Int) = he.lo + (j : Int) + 1 from by omega], rfl⟩ ssA rcA
      omega
    · repeat (first | refine awp_exit ?_ | refine then_x ?_ | refine blk_x ?_ | refine blk_y rfl ?_ | refine rnd_x ?_ | refine awp_cond_t rfl (by first | rfl | assumption | exact dT (by omega)) ?_)
      exact cut_n ⟨j, l4, hk4, by omega, e, of_decide_eq_true e2, rfl, rfl⟩ ssA rcA
theorem asked_ok {m : MktD} (h0 : (askedR m).2 = 0) : faultN m = 0 ∧ lowN m ≠ never := by
  have hf : faultN m = 0 := by
    cases Decidable.em (faultN m = 0) with
    | inl h => exact h
    | inr h => unfold askedR at h0; rw [if_pos h] at h0; exact h0
  refine ⟨hf, fun h => ?_⟩
  have hb : hasB m = false := by unfold hasB; rw [decide_eq_true h]; rfl
  unfold askedR at h0
  rw [if_neg (fun h => h hf), if_neg (by rw [hb]; simp)] at h0
  exact absurd h0 (by decide)
theorem Show_no (cp cc : Bool) (m : MktD) (high : Bool) (hl : m.hou.length ≤ 1000) (hc : m.con.length ≤ 1000) (h0 : (askedR m).2 ≠ 0) : PCall Try.prog 30 [mktA cp cc m, boolA high] (fun r => r = .tup [.t (intsT true []), intA (askedR m).2]) := by
  refine acall_of_awp T0 Try.func30 rfl rfl rfl ?_
  have d1 := decide_eq_true h0
  repeat (first | refine awp_seq ?_ | refine awp_region_lit rfl ?_)
  refine awl_hw wtA (st_box rfl rfl raA (by first | assumption | (simp only [cellsA]; rfl)) rfl rfl ?_)
  intro g2
  repeat (first | refine awp_seq ?_ | refine awp_region_lit rfl ?_ | ((first | (show AWL _ _ _ (⟨_, .assign _, _, _, _, _⟩ :: _) _ _ _; refine awl_pw ?wtq (pv_assign rfl rfl) rfl rfl ?_) | (show AWL _ _ _ (⟨_, .load _ _, _, _, _, _⟩ :: _) _ _ _; refine awl_lw ?wtq (lv_cla T0 rfl rfl rfl rcA rfl) rfl rfl rfl ?_)); case wtq => exact wtA) | refine awl_nil ?_)
  refine awl_hw wtA (st_call T0 (asked_p cp cc m hl hc) rfl rfl rfl rfl (by first | exact callee_lit | exact callee_v | exact callee_fn | assumption) rcA raA rfl ?_)
  rintro _ rfl
  repeat (first | ((first | (show AWL _ _ _ (⟨_, .move _, _, _, _, _⟩ :: _) _ _ _; refine awl_pw ?wtq (pv_move rfl rfl) rfl rfl ?_) | (show AWL _ _ _ (⟨_, .extract _ _, _, _, _, _⟩ :: _) _ _ _; refine awl_pw ?wtq (pv_extract rfl rfl rfl) rfl rfl ?_)); case wtq => exact wtA))
  refine awl_hw wtA (st_alloc T0 rfl rfl rfl rfl scA ?_)
  intro g6
  repeat (first | refine awp_seq ?_ | refine awp_region_lit rfl ?_ | refine awp_ret ?_ | refine then_n ?_ | refine then_r ?_ | refine awp_cond_t rfl (by first | rfl | assumption | exact dT (by omega)) ?_ | ((first | (show AWL _ _ _ (⟨_, .move _, _, _, _, _⟩ :: _) _ _ _; refine awl_pw ?wtq (pv_move rfl rfl) rfl rfl ?_) | (show AWL _ _ _ (⟨_, .assign _, _, _, _, _⟩ :: _) _ _ _; refine awl_pw ?wtq (pv_assign rfl rfl) rfl rfl ?_) | (show AWL _ _ _ (⟨_, .binOp .neq _ _ _ _, _, _, _, _⟩ :: _) _ _ _; refine awl_pw ?wtq (pv_neq rfl rfl rfl) rfl rfl ?_)); case wtq => exact wtA) | (show AWL _ _ _ (⟨_, .store _ _ _, _, _, _, _⟩ :: _) _ _ _; refine awl_hw wtA (st_store T0 rfl rfl rfl rfl rfl (by first | assumption | (simp only [cellsA]; rfl)) rfl rfl rfl rcA rcA trivial ?_)) | refine awl_nil ?_)
  refine bodyQ_ghost (ghost_none (d := 4) (t := intsT true []) rfl nil_tree) ?_
  exact body_p (.cons rfl (.cons rfl .nil)) rfl
theorem Show_p (cp cc : Bool) (m : MktD) (high : Bool) (hl : m.hou.length ≤ 1000) (hc : m.con.length ≤ 1000) (h0 : (askedR m).2 = 0) : PCall Try.prog 30 [mktA cp cc m, boolA high] (fun r => ∃ t, truthB m t = true ∧ shortT m t = (if high = true then highN m else lowN m) ∧ r = .tup [.t (intsT true t), intA 0]) := by
  refine acall_of_awp T0 Try.func30 rfl rfl rfl ?_
  have d1 : decide ((askedR m).2 ≠ 0) = false := decide_eq_false (fun h => h h0)
  obtain ⟨hf, hlo⟩ := asked_ok h0
  have hv := vmkt hf
  have hhi : leastV surF m 0 m.ex ≠ never := fun h => by
    obtain ⟨t, h1, _⟩ := low_at hv hlo
    have := (least_never (sur_ok hv) m.hou 0 m.ex (hs_ok hv) hv.len).1 (by rw [← h]; unfold leastV; rw [List.drop_zero]) t
    exact this (truth_fit.1 h1)
  cases high
  · repeat (first | refine awp_seq ?_ | refine awp_region_lit rfl ?_)
    refine awl_hw wtA (st_box rfl rfl raA (by first | assumption | (simp only [cellsA]; rfl)) rfl rfl ?_)
    intro g2
    repeat (first | refine awp_seq ?_ | refine awp_region_lit rfl ?_ | ((first | (show AWL _ _ _ (⟨_, .assign _, _, _, _, _⟩ :: _) _ _ _; refine awl_pw ?wtq (pv_assign rfl rfl) rfl rfl ?_) | (show AWL _ _ _ (⟨_, .load _ _, _, _, _, _⟩ :: _) _ _ _; refine awl_lw ?wtq (lv_cla T0 rfl rfl rfl rcA rfl) rfl rfl rfl ?_)); case wtq => exact wtA) | refine awl_nil ?_)
    refine awl_hw wtA (st_call T0 (asked_p cp cc m hl hc) rfl rfl rfl rfl (by first | exact callee_lit | exact callee_v | exact callee_fn | assumption) rcA raA rfl ?_)
    rintro _ rfl
    rw [h0]
    repeat (first | ((first | (show AWL _ _ _ (⟨_, .move _, _, _, _, _⟩ :: _) _ _ _; refine awl_pw ?wtq (pv_move rfl rfl) rfl rfl ?_) | (show AWL _ _ _ (⟨_, .extract _ _, _, _, _, _⟩ :: _) _ _ _; refine awl_pw ?wtq (pv_extract rfl rfl rfl) rfl rfl ?_)); case wtq => exact wtA))
    refine awl_hw wtA (st_alloc T0 rfl rfl rfl rfl scA ?_)
    intro g6
    repeat (first | refine awp_seq ?_ | refine awp_region_lit rfl ?_ | refine awp_skip ?_ | refine then_n ?_ | refine awp_cond_f rfl (by first | rfl | assumption | exact dF (by omega)) ?_ | ((first | (show AWL _ _ _ (⟨_, .move _, _, _, _, _⟩ :: _) _ _ _; refine awl_pw ?wtq (pv_move rfl rfl) rfl rfl ?_) | (show AWL _ _ _ (⟨_, .assign _, _, _, _, _⟩ :: _) _ _ _; refine awl_pw ?wtq (pv_assign rfl rfl) rfl rfl ?_) | (show AWL _ _ _ (⟨_, .build _ _, _, _, _, _⟩ :: _) _ _ _; refine awl_pw ?wtq (pv_build T0 rfl rfl rfl scA (by first | ((repeat' (first | exact BParts.nil | apply BParts.cons | rfl)); all_goals fail) | fail) (by first | ((repeat' (first | exact FillA.nil | exact Sp.done | apply FillA.cons | apply Sp.put | apply Sp.skip | (simp only [cellsA]; rfl) | rfl)); all_goals fail) | fail)) rfl rfl ?_) | (show AWL _ _ _ (⟨_, .binOp .neq _ _ _ _, _, _, _, _⟩ :: _) _ _ _; refine awl_pw ?wtq (pv_neq rfl rfl rfl) rfl rfl ?_)); case wtq => exact wtA) | (show AWL _ _ _ (⟨_, .store _ _ _, _, _, _, _⟩ :: _) _ _ _; refine awl_hw wtA (st_store T0 rfl rfl rfl rfl rfl (by first | assumption | (simp only [cellsA]; rfl)) rfl rfl rfl rcA rcA trivial ?_)) | refine awl_nil ?_)
    refine awl_hw wtA (st_alloc T0 rfl rfl rfl rfl scA ?_)
    intro g8
    repeat (first | refine awp_seq ?_ | refine awp_region_lit rfl ?_ | refine awp_skip ?_ | refine then_n ?_ | refine awp_cond_f rfl (by first | rfl | assumption | exact dF (by omega)) ?_ | ((first | (show AWL _ _ _ (⟨_, .move _, _, _, _, _⟩ :: _) _ _ _; refine awl_pw ?wtq (pv_move rfl rfl) rfl rfl ?_) | (show AWL _ _ _ (⟨_, .load _ _, _, _, _, _⟩ :: _) _ _ _; refine awl_lw ?wtq (lv_cla T0 rfl rfl rfl rcA rfl) rfl rfl rfl ?_)); case wtq => exact wtA) | (show AWL _ _ _ (⟨_, .store _ _ _, _, _, _, _⟩ :: _) _ _ _; refine awl_hw wtA (st_store T0 rfl rfl rfl rfl rfl (by first | assumption | (simp only [cellsA]; rfl)) rfl rfl rfl rcA rcA trivial ?_)) | refine awl_nil ?_)
    refine awl_hw wtA (st_acall T0 (work_o cp cc m 68 hv) rfl rfl rfl rfl (by first | exact callee_lit | exact callee_v | exact callee_fn | assumption) rcA raA rfl (by first | ((repeat' (first | exact SubH.refl _ | apply SubH.cons | exact Pick.here | apply Pick.there)); all_goals fail) | fail) (fun _ _ => trivial) ?_)
    rintro r h' ⟨gw, gm, rfl, rfl⟩
    simp only [List.cons_append, List.nil_append]
    skip
    refine awl_hw wtA (st_acall T0 (truth_o gw gm cp cc m hv lack_short (short_ok hv) [] (kn_nil _ _) (by rw [low0]; exact hlo)) rfl rfl rfl rfl (by first | exact callee_lit | exact callee_v | exact callee_fn | assumption) rcA raA rfl (by first | ((repeat' (first | exact SubH.refl _ | apply SubH.cons | exact Pick.here | apply Pick.there)); all_goals fail) | fail) (fun _ _ => trivial) ?_)
    rintro r h' ⟨t, a, c, ⟨hf1, hf2⟩, rfl, rfl⟩
    simp only [List.cons_append, List.nil_append]
    have htl : t.length = m.hou.length := (truth_iff.1 (truth_fit.2 hf1)).1
    have hrt := intRows_tree t
    rw [htl] at hrt
    repeat (first | refine awp_ret ?_ | ((first | (show AWL _ _ _ (⟨_, .assign _, _, _, _, _⟩ :: _) _ _ _; refine awl_pw ?wtq (pv_assign rfl rfl) rfl rfl ?_)); case wtq => exact wtA) | refine awl_nil ?_)
    refine bodyQ_ghost (ghost_freeze (E := 3) (sz := 1) (n := m.hou.length) (rows := t.map intRow) (d := 4) (fun q => [.sc (.int .i64 (t.getD q 0))]) rcA rfl (by rw [List.length_map, htl]) hrt) ?_
    refine body_p (.cons rfl (.cons rfl .nil)) ⟨t, truth_fit.2 hf1, ?_, ?_⟩
    · rw [if_neg (by simp), ← low0]; exact hf2
    · unfold intsT; rw [htl]; rfl
  · repeat (first | refine awp_seq ?_ | refine awp_region_lit rfl ?_)
    refine awl_hw wtA (st_box rfl rfl raA (by first | assumption | (simp only [cellsA]; rfl)) rfl rfl ?_)
    intro g2
    repeat (first | refine awp_seq ?_ | refine awp_region_lit rfl ?_ | ((first | (show AWL _ _ _ (⟨_, .assign _, _, _, _, _⟩ :: _) _ _ _; refine awl_pw ?wtq (pv_assign rfl rfl) rfl rfl ?_) | (show AWL _ _ _ (⟨_, .load _ _, _, _, _, _⟩ :: _) _ _ _; refine awl_lw ?wtq (lv_cla T0 rfl rfl rfl rcA rfl) rfl rfl rfl ?_)); case wtq => exact wtA) | refine awl_nil ?_)
    refine awl_hw wtA (st_call T0 (asked_p cp cc m hl hc) rfl rfl rfl rfl (by first | exact callee_lit | exact callee_v | exact callee_fn | assumption) rcA raA rfl ?_)
    rintro _ rfl
    rw [h0]
    repeat (first | ((first | (show AWL _ _ _ (⟨_, .move _, _, _, _, _⟩ :: _) _ _ _; refine awl_pw ?wtq (pv_move rfl rfl) rfl rfl ?_) | (show AWL _ _ _ (⟨_, .extract _ _, _, _, _, _⟩ :: _) _ _ _; refine awl_pw ?wtq (pv_extract rfl rfl rfl) rfl rfl ?_)); case wtq => exact wtA))
    refine awl_hw wtA (st_alloc T0 rfl rfl rfl rfl scA ?_)
    intro g6
    repeat (first | refine awp_seq ?_ | refine awp_region_lit rfl ?_ | refine awp_skip ?_ | refine then_n ?_ | refine awp_cond_f rfl (by first | rfl | assumption | exact dF (by omega)) ?_ | ((first | (show AWL _ _ _ (⟨_, .move _, _, _, _, _⟩ :: _) _ _ _; refine awl_pw ?wtq (pv_move rfl rfl) rfl rfl ?_) | (show AWL _ _ _ (⟨_, .assign _, _, _, _, _⟩ :: _) _ _ _; refine awl_pw ?wtq (pv_assign rfl rfl) rfl rfl ?_) | (show AWL _ _ _ (⟨_, .build _ _, _, _, _, _⟩ :: _) _ _ _; refine awl_pw ?wtq (pv_build T0 rfl rfl rfl scA (by first | ((repeat' (first | exact BParts.nil | apply BParts.cons | rfl)); all_goals fail) | fail) (by first | ((repeat' (first | exact FillA.nil | exact Sp.done | apply FillA.cons | apply Sp.put | apply Sp.skip | (simp only [cellsA]; rfl) | rfl)); all_goals fail) | fail)) rfl rfl ?_) | (show AWL _ _ _ (⟨_, .binOp .neq _ _ _ _, _, _, _, _⟩ :: _) _ _ _; refine awl_pw ?wtq (pv_neq rfl rfl rfl) rfl rfl ?_)); case wtq => exact wtA) | (show AWL _ _ _ (⟨_, .store _ _ _, _, _, _, _⟩ :: _) _ _ _; refine awl_hw wtA (st_store T0 rfl rfl rfl rfl rfl (by first | assumption | (simp only [cellsA]; rfl)) rfl rfl rfl rcA rcA trivial ?_)) | refine awl_nil ?_)
    refine awl_hw wtA (st_alloc T0 rfl rfl rfl rfl scA ?_)
    intro g8
    repeat (first | refine awp_seq ?_ | refine awp_region_lit rfl ?_ | refine then_n ?_ | refine awp_cond_t rfl (by first | rfl | assumption | exact dT (by omega)) ?_ | ((first | (show AWL _ _ _ (⟨_, .move _, _, _, _, _⟩ :: _) _ _ _; refine awl_pw ?wtq (pv_move rfl rfl) rfl rfl ?_) | (show AWL _ _ _ (⟨_, .load _ _, _, _, _, _⟩ :: _) _ _ _; refine awl_lw ?wtq (lv_cla T0 rfl rfl rfl rcA rfl) rfl rfl rfl ?_) | (show AWL _ _ _ (⟨_, .build _ _, _, _, _, _⟩ :: _) _ _ _; refine awl_pw ?wtq (pv_build T0 rfl rfl rfl scA (by first | ((repeat' (first | exact BParts.nil | apply BParts.cons | rfl)); all_goals fail) | fail) (by first | ((repeat' (first | exact FillA.nil | exact Sp.done | apply FillA.cons | apply Sp.put | apply Sp.skip | (simp only [cellsA]; rfl) | rfl)); all_goals fail) | fail)) rfl rfl ?_)); case wtq => exact wtA) | (show AWL _ _ _ (⟨_, .store _ _ _, _, _, _, _⟩ :: _) _ _ _; refine awl_hw wtA (st_store T0 rfl rfl rfl rfl rfl (by first | assumption | (simp only [cellsA]; rfl)) rfl rfl rfl rcA rcA trivial ?_)) | refine awl_nil ?_)
    refine awl_hw wtA (st_acall T0 (work_o cp cc m 69 hv) rfl rfl rfl rfl (by first | exact callee_lit | exact callee_v | exact callee_fn | assumption) rcA raA rfl (by first | ((repeat' (first | exact SubH.refl _ | apply SubH.cons | exact Pick.here | apply Pick.there)); all_goals fail) | fail) (fun _ _ => trivial) ?_)
    rintro r h' ⟨gw, gm, rfl, rfl⟩
    simp only [List.cons_append, List.nil_append]
    skip
    refine awl_hw wtA (st_acall T0 (truth_o gw gm cp cc m hv lack_sur (sur_ok hv) [] (kn_nil _ _) hhi) rfl rfl rfl rfl (by first | exact callee_lit | exact callee_v | exact callee_fn | assumption) rcA raA rfl (by first | ((repeat' (first | exact SubH.refl _ | apply SubH.cons | exact Pick.here | apply Pick.there)); all_goals fail) | fail) (fun _ _ => trivial) ?_)
    rintro r h' ⟨t, a, c, ⟨hf1, hf2⟩, rfl, rfl⟩
    simp only [List.cons_append, List.nil_append]
    have htl : t.length = m.hou.length := (truth_iff.1 (truth_fit.2 hf1)).1
    have hrt := intRows_tree t
    rw [htl] at hrt
    repeat (first | refine awp_ret ?_ | ((first | (show AWL _ _ _ (⟨_, .assign _, _, _, _, _⟩ :: _) _ _ _; refine awl_pw ?wtq (pv_assign rfl rfl) rfl rfl ?_)); case wtq => exact wtA) | refine awl_nil ?_)
    refine bodyQ_ghost (ghost_freeze (E := 3) (sz := 1) (n := m.hou.length) (rows := t.map intRow) (d := 4) (fun q => [.sc (.int .i64 (t.getD q 0))]) rcA rfl (by rw [List.length_map, htl]) hrt) ?_
    refine body_p (.cons rfl (.cons rfl .nil)) ⟨t, truth_fit.2 hf1, ?_, ?_⟩
    · rw [lack_neg] at hf2
      rw [if_pos trivial, ← high0, ← hf2, Int.zero_sub, Int.neg_neg]
    · unfold intsT; rw [htl]; rfl
end Go.Proofs.Ytallicfckbdeaaa
