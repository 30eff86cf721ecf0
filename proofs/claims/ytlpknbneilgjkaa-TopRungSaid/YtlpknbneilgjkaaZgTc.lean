/- Joined texts: RFa, Pa, Ab, CXi, Qa, Tc. -/
import Derived.Test.YtlpknbneilgjkaaZgRDg
import Derived.Test.YtlpknbneilgjkaaZgRGMp
import Derived.Test.YtlpknbneilgjkaaZgRDh
import Derived.Test.YtlpknbneilgjkaaZgGTy
import Derived.Test.YtlpknbneilgjkaaZgCMsp
import Derived.Test.YtlpknbneilgjkaaZgRFr
import Derived.Test.YtlpknbneilgjkaaZgAa
import Derived.Test.YtlpknbneilgjkaaZgRDe0
import Derived.Test.YtlpknbneilgjkaaZgCGHa
section
namespace Go.Proofs.Ytlpknbneilgjkaa.R
open Go Go.RowKit Go.Tl
set_option linter.unusedVariables false
set_option linter.unusedSimpArgs false
theorem dig_len (f : Nat → Int) (n : Nat) : (digL f n).length = n := by simp [digL]
end Go.Proofs.Ytlpknbneilgjkaa.R
end
section
namespace Go.Proofs.Ytlpknbneilgjkaa
open Go Go.RowKit Go.Tl
set_option linter.unusedVariables false
def mR : C.MktD := ⟨5, [⟨0, 5, false, 0⟩, ⟨0, 5, false, 0⟩], [⟨0, 1, 9⟩, ⟨1, 0, 9⟩]⟩
def bR : R.BookD := ⟨2, [⟨0, 1, 9, 1⟩, ⟨1, 0, 9, 1⟩]⟩
theorem mR_asked : C.askedR mR = ((0, 0), 0) := by decide +kernel
theorem bR_f : R.faultN bR = 0 := by decide
theorem bR_off {o h : List Int} (hG : R.isGr bR o h) : R.sumI o = 18 := by
  have hv := R.vbook bR_f
  have g := R.gr_facts hv hG
  have h1 := R.gr_off_le hv g (l := [9, 9]) (by decide)
  have h2 := R.grf_num hv g
  have e1 : R.sumI [9, 9] = 18 := rfl
  have e2 : R.sumI (bR.cons.map (·.num)) = 18 := rfl
  omega
theorem bR_bd {o : List Int} (ho : o.length = bR.cons.length ∧ R.OffF bR (R.numF bR) (fun i => o.getD i 0)) : ∀ x ∈ o, -1000000000 ≤ x ∧ x ≤ 1000000000 := fun x hx => by
  obtain ⟨h1, h2⟩ := ho
  obtain ⟨k, hk, rfl⟩ := List.getElem_of_mem hx
  have h3 := h2.bd k (by omega)
  have h4 := (R.vbook bR_f).num k (by omega)
  have h5 : o.getD k 0 = o[k] := by simp [List.getD_eq_getElem?_getD, hk]
  have h6 : 0 ≤ o.getD k 0 ∧ o.getD k 0 ≤ (bR.cons.getD k default).num := h3
  omega
end Go.Proofs.Ytlpknbneilgjkaa
end
section
namespace Go.Proofs.Ytlpknbneilgjkaa
open Go Go.RowKit Go.Tl
set_option linter.unusedVariables false
set_option linter.unusedSimpArgs false
set_option maxRecDepth 100000
set_option maxHeartbeats 4000000
attribute [local irreducible] AWP AWL AOp PV LV AWT AWE
theorem rung_p : PCall Try.prog 33 [] (fun r => r = boolA true) := by
  have hS := C.Shortage_p true true mR (by decide) (by decide)
  rw [mR_asked] at hS
  replace hS : PCall Try.prog 70 [C.mktA true true mR] (fun r => r = .tup [.ag [intA 0, intA 0], intA 0]) := hS
  have hG := R.greatest_p true bR (by decide)
  simp only [if_pos bR_f] at hG
  refine acall_of_awp T0 Try.func33 rfl rfl rfl ?_
  repeat (first | refine awp_seq ?_ | refine awp_region_lit rfl ?_ | ((first | (show AWL _ _ _ (⟨_, .assign _, _, _, _, _⟩ :: _) _ _ _; refine awl_pw ?wtq (pv_assign rfl rfl) rfl rfl ?_) | (show AWL _ _ _ (⟨_, .build _ _, _, _, _, _⟩ :: _) _ _ _; refine awl_pw ?wtq (pv_build T0 rfl rfl rfl scA (by first | ((repeat' (first | exact BParts.nil | apply BParts.cons | rfl)); all_goals fail) | fail) (by first | ((repeat' (first | exact FillA.nil | exact Sp.done | apply FillA.cons | apply Sp.put | apply Sp.skip | (simp only [cellsA]; rfl) | rfl)); all_goals fail) | fail)) rfl rfl ?_)); case wtq => exact wtA) | refine awl_nil ?_)
  refine awl_hw wtA (st_bsl T0 rfl rfl rfl rfl rfl rcA rfl rfl rfl rfl (by simp only [List.map_cons, List.map_nil, cellsA]; rfl) ?_)
  intro g11
  refine awl_ghost (ghost_freeze (d := 11) (v := .slice (some ⟨g11, 0, none⟩) 2 2) (E := 186) (sz := 4) (n := 2) (rows := mR.hou.map C.houRow) (fun q => C.houL (mR.hou.getD q default)) rcA rfl rfl (rows_tree mR.hou C.houRow C.houL (fun _ => rfl))) ?_
  repeat (first | ((first | (show AWL _ _ _ (⟨_, .build _ _, _, _, _, _⟩ :: _) _ _ _; refine awl_pw ?wtq (pv_build T0 rfl rfl rfl scA (by first | ((repeat' (first | exact BParts.nil | apply BParts.cons | rfl)); all_goals fail) | fail) (by first | ((repeat' (first | exact FillA.nil | exact Sp.done | apply FillA.cons | apply Sp.put | apply Sp.skip | (simp only [cellsA]; rfl) | rfl)); all_goals fail) | fail)) rfl rfl ?_)); case wtq => exact wtA))
  refine awl_hw wtA (st_bsl T0 rfl rfl rfl rfl rfl rcA rfl rfl rfl rfl (by simp only [List.map_cons, List.map_nil, cellsA]; rfl) ?_)
  intro g14
  refine awl_ghost (ghost_freeze (d := 14) (v := .slice (some ⟨g14, 0, none⟩) 2 2) (E := 188) (sz := 3) (n := 2) (rows := mR.con.map C.conRow) (fun q => C.conL (mR.con.getD q default)) rcA rfl rfl (rows_tree mR.con C.conRow C.conL (fun _ => rfl))) ?_
  repeat (first | ((first | (show AWL _ _ _ (⟨_, .build _ _, _, _, _, _⟩ :: _) _ _ _; refine awl_pw ?wtq (pv_build T0 rfl rfl rfl scA (by first | ((repeat' (first | exact BParts.nil | apply BParts.cons | rfl)); all_goals fail) | fail) (by first | ((repeat' (first | exact FillA.nil | exact Sp.done | apply FillA.cons | apply Sp.put | apply Sp.skip | (simp only [cellsA]; rfl) | rfl)); all_goals fail) | fail)) rfl rfl ?_)); case wtq => exact wtA))
  refine awl_hw wtA (st_alloc T0 rfl rfl rfl rfl scA ?_)
  intro g1
  repeat (first | refine awp_seq ?_ | refine awp_region_lit rfl ?_ | ((first | (show AWL _ _ _ (⟨_, .load _ _, _, _, _, _⟩ :: _) _ _ _; refine awl_lw ?wtq (lv_cla T0 rfl rfl rfl rcA rfl) rfl rfl rfl ?_)); case wtq => exact wtA) | (show AWL _ _ _ (⟨_, .store _ _ _, _, _, _, _⟩ :: _) _ _ _; refine awl_hw wtA (st_store T0 rfl rfl rfl rfl rfl (by first | assumption | (simp only [cellsA]; rfl)) rfl rfl rfl rcA rcA trivial ?_)) | refine awl_nil ?_)
  refine awl_hw wtA (st_call T0 (hS) rfl rfl rfl rfl (by first | exact callee_lit | exact callee_v | exact callee_fn | assumption) rcA raA rfl ?_)
  rintro _ rfl
  repeat (first | ((first | (show AWL _ _ _ (⟨_, .move _, _, _, _, _⟩ :: _) _ _ _; refine awl_pw ?wtq (pv_move rfl rfl) rfl rfl ?_) | (show AWL _ _ _ (⟨_, .extract _ _, _, _, _, _⟩ :: _) _ _ _; refine awl_pw ?wtq (pv_extract rfl rfl rfl) rfl rfl ?_)); case wtq => exact wtA))
  refine awl_hw wtA (st_alloc T0 rfl rfl rfl rfl scA ?_)
  intro g2
  repeat (first | refine awp_seq ?_ | refine awp_region_lit rfl ?_ | ((first | (show AWL _ _ _ (⟨_, .assign _, _, _, _, _⟩ :: _) _ _ _; refine awl_pw ?wtq (pv_assign rfl rfl) rfl rfl ?_) | (show AWL _ _ _ (⟨_, .build _ _, _, _, _, _⟩ :: _) _ _ _; refine awl_pw ?wtq (pv_build T0 rfl rfl rfl scA (by first | ((repeat' (first | exact BParts.nil | apply BParts.cons | rfl)); all_goals fail) | fail) (by first | ((repeat' (first | exact FillA.nil | exact Sp.done | apply FillA.cons | apply Sp.put | apply Sp.skip | (simp only [cellsA]; rfl) | rfl)); all_goals fail) | fail)) rfl rfl ?_)); case wtq => exact wtA) | (show AWL _ _ _ (⟨_, .store _ _ _, _, _, _, _⟩ :: _) _ _ _; refine awl_hw wtA (st_store T0 rfl rfl rfl rfl rfl (by first | assumption | (simp only [cellsA]; rfl)) rfl rfl rfl rcA rcA trivial ?_)) | refine awl_nil ?_)
  refine awl_hw wtA (st_bsl T0 rfl rfl rfl rfl rfl rcA rfl rfl rfl rfl (by simp only [List.map_cons, List.map_nil, cellsA]; rfl) ?_)
  intro g24
  refine awl_ghost (ghost_freeze (d := 24) (v := .slice (some ⟨g24, 0, none⟩) 2 2) (E := 164) (sz := 4) (n := 2) (rows := bR.cons.map R.conRow) (fun q => R.conL (bR.cons.getD q default)) rcA rfl rfl (rows_tree bR.cons R.conRow R.conL (fun _ => rfl))) ?_
  repeat (first | ((first | (show AWL _ _ _ (⟨_, .build _ _, _, _, _, _⟩ :: _) _ _ _; refine awl_pw ?wtq (pv_build T0 rfl rfl rfl scA (by first | ((repeat' (first | exact BParts.nil | apply BParts.cons | rfl)); all_goals fail) | fail) (by first | ((repeat' (first | exact FillA.nil | exact Sp.done | apply FillA.cons | apply Sp.put | apply Sp.skip | (simp only [cellsA]; rfl) | rfl)); all_goals fail) | fail)) rfl rfl ?_)); case wtq => exact wtA))
  refine awl_hw wtA (st_call T0 (hG) rfl rfl rfl rfl (by first | exact callee_lit | exact callee_v | exact callee_fn | assumption) rcA raA rfl ?_)
  rintro r ⟨o, hs, rfl, hg⟩
  have g := R.gr_facts (R.vbook bR_f) hg
  have ho := ((R.offB_iff (R.vbook bR_f)).1 g.isoff)
  have hol : o.length = 2 := ho.1
  have hT := R.total_v (cp := true) (xs := o) (y := 18) (by omega) (bR_bd ho) (bR_off hg)
  repeat (first | refine awp_seq ?_ | refine awp_region_lit rfl ?_ | ((first | (show AWL _ _ _ (⟨_, .move _, _, _, _, _⟩ :: _) _ _ _; refine awl_pw ?wtq (pv_move rfl rfl) rfl rfl ?_) | (show AWL _ _ _ (⟨_, .assign _, _, _, _, _⟩ :: _) _ _ _; refine awl_pw ?wtq (pv_assign rfl rfl) rfl rfl ?_) | (show AWL _ _ _ (⟨_, .load _ _, _, _, _, _⟩ :: _) _ _ _; refine awl_lw ?wtq (lv_cla T0 rfl rfl rfl rcA rfl) rfl rfl rfl ?_) | (show AWL _ _ _ (⟨_, .build _ _, _, _, _, _⟩ :: _) _ _ _; refine awl_pw ?wtq (pv_build T0 rfl rfl rfl scA (by first | ((repeat' (first | exact BParts.nil | apply BParts.cons | rfl)); all_goals fail) | fail) (by first | ((repeat' (first | exact FillA.nil | exact Sp.done | apply FillA.cons | apply Sp.put | apply Sp.skip | (simp only [cellsA]; rfl) | rfl)); all_goals fail) | fail)) rfl rfl ?_) | (show AWL _ _ _ (⟨_, .binOp .eql _ _ _ _, _, _, _, _⟩ :: _) _ _ _; refine awl_pw ?wtq (pv_eql rfl rfl rfl) rfl rfl ?_) | (show AWL _ _ _ (⟨_, .extract _ _, _, _, _, _⟩ :: _) _ _ _; refine awl_pw ?wtq (pv_extract rfl rfl rfl) rfl rfl ?_)); case wtq => exact wtA) | refine awl_nil ?_)
  refine awl_pw (wt_some' rfl rfl rfl rfl raA) (C.pv_eql_rng (q := (0, 0)) (r := (0, 0)) rfl rfl rfl) rfl rfl ?_
  repeat (first | ((first | (show AWL _ _ _ (⟨_, .move _, _, _, _, _⟩ :: _) _ _ _; refine awl_pw ?wtq (pv_move rfl rfl) rfl rfl ?_) | (show AWL _ _ _ (⟨_, .binOp .eql _ _ _ _, _, _, _, _⟩ :: _) _ _ _; refine awl_pw ?wtq (pv_eql rfl rfl rfl) rfl rfl ?_) | (show AWL _ _ _ (⟨_, .pick _ _ _, _, _, _, _⟩ :: _) _ _ _; refine awl_pw ?wtq (pv_pick_t rfl rfl tfA rfl) rfl rfl ?_)); case wtq => exact wtA))
  refine awl_hw wtA (st_call T0 (hT) rfl rfl rfl rfl (by first | exact callee_lit | exact callee_v | exact callee_fn | assumption) rcA raA rfl ?_)
  rintro _ rfl
  repeat (first | refine awp_ret ?_ | ((first | (show AWL _ _ _ (⟨_, .assign _, _, _, _, _⟩ :: _) _ _ _; refine awl_pw ?wtq (pv_assign rfl rfl) rfl rfl ?_) | (show AWL _ _ _ (⟨_, .binOp .eql _ _ _ _, _, _, _, _⟩ :: _) _ _ _; refine awl_pw ?wtq (pv_eql rfl rfl rfl) rfl rfl ?_) | (show AWL _ _ _ (⟨_, .pick _ _ _, _, _, _, _⟩ :: _) _ _ _; refine awl_pw ?wtq (pv_pick_t rfl rfl tfA rfl) rfl rfl ?_)); case wtq => exact wtA) | refine awl_nil ?_)
  exact body_p (.cons rfl .nil) rfl
end Go.Proofs.Ytlpknbneilgjkaa
end
section
namespace Go.Proofs.Ytlpknbneilgjkaa.C
open Go Go.RowKit Go.Tl
set_option linter.unusedVariables false
set_option linter.unusedSimpArgs false
/-- with a contract more; with one in the other direction too -/
theorem bnd_owed {m x : MktD} (h1 : x.ex = m.ex) (h2 : x.hou = m.hou) (h3 : owedN x = owedN m) : bndN x = bndN m := by
  unfold bndN lowN highN
  rw [h1, h2, h3]
end Go.Proofs.Ytlpknbneilgjkaa.C
end
section
namespace Go.Proofs.Ytlpknbneilgjkaa
open Go Go.RowKit Go.Tl
set_option linter.unusedVariables false
def cL (b : R.BookD) (f : Nat → Int) : Nat → List C.ConD
  | 0 => []
  | k + 1 => if 0 < f k then cL b f k ++ [⟨(b.cons.getD k default).frm, (b.cons.getD k default).to, f k⟩] else cL b f k
theorem cL_yes {b : R.BookD} {f : Nat → Int} {k : Nat} (h : 0 < f k) : cL b f (k + 1) = cL b f k ++ [⟨(b.cons.getD k default).frm, (b.cons.getD k default).to, f k⟩] := by simp only [cL]; rw [if_pos h]
theorem cL_no {b : R.BookD} {f : Nat → Int} {k : Nat} (h : ¬ 0 < f k) : cL b f (k + 1) = cL b f k := by simp only [cL]; rw [if_neg h]
theorem cL_len (b : R.BookD) (f : Nat → Int) : ∀ k, (cL b f k).length ≤ k
  | 0 => Nat.le_refl _
  | k + 1 => by
    have := cL_len b f k
    simp only [cL]
    split
    · simp; omega
    · omega
theorem owN_app (cs : List C.ConD) (c : C.ConD) (i : Nat) : ∀ k, k ≤ cs.length → C.owN (cs ++ [c]) k i = C.owN cs k i
  | 0, _ => rfl
  | k + 1, h => by
    have e : (cs ++ [c]).getD k default = cs.getD k default := by
      simp [List.getD_eq_getElem?_getD, List.getElem?_append_left (show k < cs.length from h)]
    simp only [C.owN, owN_app cs c i k (by omega), e]
theorem owed_cL {b : R.BookD} {f : Nat → Int} (i : Nat) : ∀ k, (∀ j, j < k → 0 ≤ f j) → C.owN (cL b f k) (cL b f k).length i = R.accN b.cons f k i
  | 0, _ => rfl
  | k + 1, h => by
    have ih := owed_cL (b := b) (f := f) i k (fun j hj => h j (by omega))
    have hk := h k (by omega)
    by_cases c : 0 < f k
    · rw [cL_yes c]
      have e : (cL b f k ++ [(⟨(b.cons.getD k default).frm, (b.cons.getD k default).to, f k⟩ : C.ConD)]).getD (cL b f k).length default = ⟨(b.cons.getD k default).frm, (b.cons.getD k default).to, f k⟩ := by
        simp [List.getD_eq_getElem?_getD]
      simp only [List.length_append, List.length_cons, List.length_nil, Nat.zero_add, C.owN, owN_app _ _ i _ (Nat.le_refl _), e, ih, R.accN]
      omega
    · rw [cL_no c, ih]
      have : f k = 0 := by omega
      simp only [R.accN, this]
      split <;> split <;> omega
theorem cL_mem {b : R.BookD} {f : Nat → Int} {c : C.ConD} : ∀ {k : Nat}, c ∈ cL b f k → ∃ j, j < k ∧ 0 < f j ∧ c = ⟨(b.cons.getD j default).frm, (b.cons.getD j default).to, f j⟩
  | 0, h => by cases h
  | k + 1, h => by
    by_cases q : 0 < f k
    · rw [cL_yes q, List.mem_append] at h
      rcases h with h | h
      · obtain ⟨j, h1, h2⟩ := cL_mem h
        exact ⟨j, by omega, h2⟩
      · simp at h
        exact ⟨k, by omega, q, h⟩
    · rw [cL_no q] at h
      obtain ⟨j, h1, h2⟩ := cL_mem h
      exact ⟨j, by omega, h2⟩
/-- the market with the contracts of the book, of other numbers -/
abbrev mkC (m : C.MktD) (b : R.BookD) (f : Nat → Int) : C.MktD := ⟨m.ex, m.hou, cL b f b.cons.length⟩
theorem mk_fault {m : C.MktD} {b : R.BookD} (hv : R.VBook b) (hh : b.houses ≤ m.hou.length) {f g : Nat → Int} (hf : ∀ k, k < b.cons.length → 0 ≤ f k ∧ f k ≤ 100) (h : C.faultN (mkC m b g) = 0) : C.faultN (mkC m b f) = 0 := by
  have hl := hv.len
  have h1 := cL_len b f b.cons.length
  unfold C.faultN at h ⊢
  split at h
  · cases h
  split at h
  · rename_i k1 k2
    obtain ⟨k3, k4, _⟩ := k2
    rw [if_neg (by simp only at k1 ⊢; omega)]
    refine if_pos ⟨k3, k4, List.all_eq_true.2 fun c hc => ?_⟩
    obtain ⟨j, hj, hp, rfl⟩ := cL_mem hc
    have a1 := hv.frm j hj
    have a2 := hv.to j hj
    have a3 := hv.ne j hj
    have a4 := hf j hj
    simp only [C.conB, Bool.and_eq_true, decide_eq_true_eq]
    exact ⟨inB_iff.2 (by omega), inB_iff.2 (by omega), a3, inB_iff.2 (by omega)⟩
  · cases h
theorem mk_owed {m : C.MktD} {b : R.BookD} {f g : Nat → Int} (hf : ∀ k, k < b.cons.length → 0 ≤ f k) (hg : ∀ k, k < b.cons.length → 0 ≤ g k) (h : ∀ i, R.accN b.cons f b.cons.length i = R.accN b.cons g b.cons.length i) : C.owedN (mkC m b f) = C.owedN (mkC m b g) := by
  funext i
  show C.owN (cL b f b.cons.length) (cL b f b.cons.length).length i = C.owN (cL b g b.cons.length) (cL b g b.cons.length).length i
  rw [owed_cL i _ hf, owed_cL i _ hg, h i]
theorem keep_owed {m x : C.MktD} (h1 : x.ex = m.ex) (h2 : x.hou = m.hou) (h3 : C.owedN x = C.owedN m) (s : List Int) : C.bndN (C.keepM x s) = C.bndN (C.keepM m s) := by
  refine C.bnd_owed ?_ ?_ ?_
  · exact h1
  · show _ = _
    unfold C.keepM
    rw [h2]
  · exact h3
theorem asked_owed {m x : C.MktD} (h1 : x.ex = m.ex) (h2 : x.hou = m.hou) (h3 : C.owedN x = C.owedN m) (h4 : C.faultN x = C.faultN m) : C.askedR x = C.askedR m := by
  have hl : C.lowN x = C.lowN m := by unfold C.lowN; rw [h1, h2, h3]
  unfold C.askedR C.hasB
  rw [h4, hl, C.bnd_owed h1 h2 h3]
theorem ess_owed {m x : C.MktD} (h1 : x.ex = m.ex) (h2 : x.hou = m.hou) (h3 : C.owedN x = C.owedN m) (F : Int × Int → Int) : ∀ k, C.essL x F k = C.essL m F k
  | 0 => rfl
  | k + 1 => by
    simp only [C.essL, ess_owed h1 h2 h3 F k, h2, keep_owed h1 h2 h3]
theorem essR_owed {m x : C.MktD} (h1 : x.ex = m.ex) (h2 : x.hou = m.hou) (h3 : C.owedN x = C.owedN m) (h4 : C.faultN x = C.faultN m) : C.essR x = C.essR m := by
  unfold C.essR
  rw [asked_owed h1 h2 h3 h4, ess_owed h1 h2 h3, ess_owed h1 h2 h3, h2]
theorem corn_owed {m x : C.MktD} (h1 : x.ex = m.ex) (h2 : x.hou = m.hou) (h3 : C.owedN x = C.owedN m) (h4 : C.faultN x = C.faultN m) : C.cornR x = C.cornR m := by
  have hc : C.corB x = C.corB m := by
    funext o
    unfold C.corB
    rw [keep_owed h1 h2 h3]
  have hs : C.sellB x = C.sellB m := by
    funext o
    unfold C.sellB
    rw [h2]
  unfold C.cornR
  rw [asked_owed h1 h2 h3 h4, hc, hs, h2]
theorem combC_len {ok : Nat → Bool} {n : Nat} : ∀ {m i : Nat} {e : List Nat}, e ∈ C.combC ok n m i → e.length = m
  | 0, i, e, h => by
    simp only [C.combC, List.mem_singleton] at h
    subst h; rfl
  | m + 1, i, e, h => by
    simp only [C.combC, List.mem_flatMap] at h
    obtain ⟨j, _, he⟩ := h
    split at he
    · obtain ⟨e', he', rfl⟩ := List.mem_map.1 he
      rw [List.length_cons, combC_len he']
    · cases he
theorem corn_len (m : C.MktD) : (C.cornR m).1.length ≤ m.hou.length := by
  unfold C.cornR
  split
  · simp
  · cases h : C.fndL (C.corB m) [] (C.sizesC (C.sellB m) m.hou.length 0) with
    | none => simp
    | some e =>
      simp only [C.natsI_len]
      unfold C.fndL at h
      obtain ⟨e', h1, rfl⟩ := Option.map_eq_some_iff.1 h
      have h2 := List.mem_of_find?_eq_some h1
      unfold C.sizesC at h2
      obtain ⟨k, hk, he⟩ := List.mem_flatMap.1 h2
      have := combC_len he
      have := List.mem_range'_1.1 hk
      simp only [List.nil_append]
      omega
/-- all that alike compares -/
structure SameR (m x : C.MktD) : Prop where
  ask : C.askedR x = C.askedR m
  ess : C.essR x = C.essR m
  cor : C.cornR x = C.cornR m
theorem rung_same {m : C.MktD} {b : R.BookD} (hv : R.VBook b) (hh : b.houses ≤ m.hou.length) {f g : Nat → Int} (hf : ∀ k, k < b.cons.length → 0 ≤ f k ∧ f k ≤ 100) (hg : ∀ k, k < b.cons.length → 0 ≤ g k ∧ g k ≤ 100) (h : ∀ i, R.accN b.cons g b.cons.length i = R.accN b.cons f b.cons.length i) (h0 : C.faultN (mkC m b f) = 0) : SameR (mkC m b f) (mkC m b g) := by
  have h1 := mk_fault hv hh hg h0
  have h2 : C.owedN (mkC m b g) = C.owedN (mkC m b f) := mk_owed (fun k hk => (hg k hk).1) (fun k hk => (hf k hk).1) h
  have h3 : C.faultN (mkC m b g) = C.faultN (mkC m b f) := by rw [h0, h1]
  exact ⟨asked_owed rfl rfl h2 h3, essR_owed rfl rfl h2 h3, corn_owed rfl rfl h2 h3⟩
theorem accN_sub (cs : List R.ConD) (f g : Nat → Int) (h : Nat) : ∀ k, R.accN cs (fun i => f i - g i) k h = R.accN cs f k h - R.accN cs g k h
  | 0 => rfl
  | k + 1 => by
    simp only [R.accN, accN_sub cs f g h k]
    split <;> split <;> omega
/-- the two markets of the law against the whole one -/
theorem rung_left {m : C.MktD} {b : R.BookD} (hv : R.VBook b) (hh : b.houses ≤ m.hou.length) {o : List Int} (ho : R.offB b o = true) (h0 : C.faultN (mkC m b (R.numF b)) = 0) : SameR (mkC m b (R.numF b)) (mkC m b fun i => R.numF b i - o.getD i 0) := by
  have ho := ((R.offB_iff hv).1 ho).2
  refine rung_same hv hh (fun k hk => ?_) (fun k hk => ?_) (fun i => ?_) h0
  · have := hv.num k hk
    show 0 ≤ (b.cons.getD k default).num ∧ (b.cons.getD k default).num ≤ 100
    omega
  · have h1 := hv.num k hk
    have h2 : 0 ≤ o.getD k 0 ∧ o.getD k 0 ≤ (b.cons.getD k default).num := ho.bd k hk
    show 0 ≤ (b.cons.getD k default).num - o.getD k 0 ∧ (b.cons.getD k default).num - o.getD k 0 ≤ 100
    omega
  · rw [accN_sub, ho.net i]
    omega
theorem few_bd {b : R.BookD} (hv : R.VBook b) {s : List Int} {d : Nat → Int} (h : R.FewOk b s d) : ∀ k, k < b.cons.length → 0 ≤ d k ∧ d k ≤ 100 := fun k hk => by
  have h1 := hv.num k hk
  have h2 := h.del.bd k hk
  unfold R.capS at h2
  split at h2
  · have : d k ≤ (b.cons.getD k default).num := h2.2
    omega
  · omega
theorem rung_few {m : C.MktD} {b : R.BookD} (hv : R.VBook b) (hh : b.houses ≤ m.hou.length) {s : List Int} {d : Nat → Int} (hd : R.FewOk b s d) (h0 : C.faultN (mkC m b (R.numF b)) = 0) : SameR (mkC m b (R.numF b)) (mkC m b d) := by
  refine rung_same hv hh (fun k hk => ?_) (few_bd hv hd) (fun i => hd.del.net i) h0
  have := hv.num k hk
  show 0 ≤ (b.cons.getD k default).num ∧ (b.cons.getD k default).num ≤ 100
  omega
end Go.Proofs.Ytlpknbneilgjkaa
end
section
namespace Go.Tl
open Go Go.RowKit
set_option linter.unusedVariables false
set_option linter.unusedSimpArgs false
section
variable {P : Program} {N : Nat} {o : Oper} {md : Nat → Prop} {s : Slots} {h h1 : List Ent} {K : Slots → List Ent → Prop}
end
/-- an operation (its kind as in a tree) and what follows; or what may come first otherwise -/
inductive PC where
  | stop
  | op (i k : Nat) (r : PC)
  | alt (a b : PC)
open Go.Proofs.Ytlpknbneilgjkaa
section
variable {P : Program} {ops : Array Oper} {Q : Exit → Act → World → Prop} {md : Region.Mode} {S : World → Prop} {ro : Option Nat}
def wpC (P : Program) (ops : Array Oper) (Q : Exit → Act → World → Prop) (S : World → Prop) : PC → Act → World → Prop
  | .stop, a, w => Q .normal a w
  | .op i 0 r, a, w => ∃ o v, ops[i]? = some o ∧ YieldsIf P ops (fun _ => True) o v a ∧ wpC P ops Q S r (a.put o.dst v) w
  | .op i 1 r, a, w => ∃ o v, ops[i]? = some o ∧ YieldsIf P ops S o v a ∧ wpC P ops Q S r (a.put o.dst v) w
  | .op i _ r, a, w => wpOX P ops Q i (fun a' w' => S w' ∧ wpC P ops Q S r a' w') a w
  | .alt a b, x, w => wpC P ops Q S a x w ∧ wpC P ops Q S b x w
def szC : PC → Nat
  | .stop => 1
  | .op _ _ r => szC r + 1
  | .alt a b => szC a + szC b + 1
def headsC : PC → List Nat
  | .stop => []
  | .op i k _ => if k = 2 then [i] else []
  | .alt a b => headsC a ++ headsC b
/-- br: within a choice -/
def okC (md : Region.Mode) (ops : Array Oper) : PC → Bool → Nat → Array Bool → Bool
  | .stop, br, n, listed => !br && (n == 0) && (Region.ready md ops listed).isEmpty
  | .op i 0 r, br, n + 1, listed => !br && (Region.ready md ops listed).contains i && Region.free md ops listed i && okC md ops r false n (listed.setIfInBounds i true)
  | .op i 1 r, br, n + 1, listed => !br && (Region.ready md ops listed).contains i && Region.free md ops listed i && okC md ops r false n (listed.setIfInBounds i true)
  | .op i 2 r, br, n + 1, listed => (br || (Region.ready md ops listed == [i])) && okC md ops r false n (listed.setIfInBounds i true)
  | .alt a b, br, n, listed => (br || (!(Region.ready md ops listed).isEmpty && (Region.ready md ops listed).all (fun i => (headsC a ++ headsC b).contains i))) && okC md ops a true n listed && okC md ops b true n listed
  | _, _, _, _ => false
/-- what a choice asks -/
theorem altC (hs : Region.noSelect ops = true) : ∀ (t : PC) (n : Nat) (listed : Array Bool) (a : Act) (w : World), okC md ops t true (n + 1) listed = true → wpC P ops Q S t a w →
    ∀ i ∈ headsC t, ∃ r, okC md ops r false n (listed.setIfInBounds i true) = true ∧ wpOX P ops Q i (fun a' w' => S w' ∧ wpC P ops Q S r a' w') a w ∧ szC r < szC t := by
  intro t
  induction t with
  | stop => intro n listed a w hok; simp [okC] at hok
  | op i k r ih =>
    intro n listed a w hok h j hj
    match k with
    | 0 => simp [okC] at hok
    | 1 => simp [okC] at hok
    | 2 =>
      simp [headsC] at hj
      subst hj
      simp only [okC, Bool.true_or, Bool.true_and] at hok
      exact ⟨r, hok, h, by simp only [szC]; omega⟩
    | k + 3 => simp [okC] at hok
  | alt x y ihx ihy =>
    intro n listed a w hok h j hj
    simp only [okC, Bool.true_or, Bool.true_and, Bool.and_eq_true] at hok
    rcases List.mem_append.1 hj with hj | hj
    · obtain ⟨r, h1, h2, h3⟩ := ihx n listed a w hok.1 h.1 j hj
      exact ⟨r, h1, h2, by simp only [szC]; omega⟩
    · obtain ⟨r, h1, h2, h3⟩ := ihy n listed a w hok.2 h.2 j hj
      exact ⟨r, h1, h2, by simp only [szC]; omega⟩
theorem wpAX_of_C (hs : Region.noSelect ops = true) (hQ : ∀ c a d v w, Q (.panic c) (a.put d v) w → Q (.panic c) a w) : ∀ (m : Nat) (t : PC), szC t ≤ m → ∀ (n : Nat) (listed : Array Bool) (a : Act) (w : World), okC md ops t false n listed = true → Closed md ops listed → S w →
      wpC P ops Q S t a w → wpAX P md ops Q S (fun _ => true) n listed a w := by
  intro m
  induction m with
  | zero => intro t ht; cases t <;> simp only [szC] at ht <;> omega
  | succ m ih =>
    intro t ht n listed a w hok hcl hS h
    match t, n with
    | .stop, n =>
      simp only [okC, Bool.and_eq_true, beq_iff_eq, List.isEmpty_iff] at hok
      obtain ⟨⟨_, rfl⟩, hr⟩ := hok
      exact ⟨hr, h⟩
    | .op i k r, 0 =>
      match k with
      | 0 => simp [okC] at hok
      | 1 => simp [okC] at hok
      | 2 => simp [okC] at hok
      | k + 3 => simp [okC] at hok
    | .op i k r, n + 1 =>
      have hr : szC r ≤ m := by simp only [szC] at ht; omega
      match k with
      | 0 =>
        simp only [okC, Bool.and_eq_true] at hok
        obtain ⟨o, v, ho, hy, hk⟩ := h
        refine wpAX_first (T := fun _ => True) ho (Region.noSelect_spec hs) hQ (fun _ _ _ _ _ _ _ _ _ _ => trivial) n listed a w hcl (Region.free_spec ho hok.1.2) (by simpa using hok.1.1.2) hy trivial ?_
        exact ih r hr n _ _ w hok.2 (hcl.set (by simpa using hok.1.1.2)) hS hk
      | 1 =>
        simp only [okC, Bool.and_eq_true] at hok
        obtain ⟨o, v, ho, hy, hk⟩ := h
        refine wpAX_first (T := S) ho (Region.noSelect_spec hs) hQ (fun _ _ _ _ _ _ _ _ hSw hk => hk rfl hSw) n listed a w hcl (Region.free_spec ho hok.1.2) (by simpa using hok.1.1.2) hy hS ?_
        exact ih r hr n _ _ w hok.2 (hcl.set (by simpa using hok.1.1.2)) hS hk
      | 2 =>
        simp only [okC, Bool.false_or, Bool.and_eq_true, beq_iff_eq] at hok
        have hrd := hok.1
        refine ⟨fun h0 => (by rw [hrd] at h0; cases h0), fun j hj => ?_⟩
        have hj' := hj
        rw [hrd, List.mem_singleton] at hj'
        subst hj'
        exact wpOX_mono (fun a' w' h' => ⟨fun _ _ => h'.1, ih r hr n _ _ w' hok.2 (hcl.set hj) h'.1 h'.2⟩) h
      | k + 3 => simp [okC] at hok
    | .alt x y, 0 =>
      exfalso
      simp only [okC, Bool.and_eq_true] at hok
      have key : ∀ z : PC, okC md ops z true 0 listed = true → False := fun z => by
        induction z with
        | stop => intro h; simp [okC] at h
        | op i k r _ =>
          intro h
          match k with
          | 0 => simp [okC] at h
          | 1 => simp [okC] at h
          | 2 => simp [okC] at h
          | k + 3 => simp [okC] at h
        | alt p q ihp _ =>
          intro h
          simp only [okC, Bool.and_eq_true] at h
          exact ihp h.1.2
      exact key x hok.1.2
    | .alt x y, n + 1 =>
      have hok' : okC md ops (.alt x y) true (n + 1) listed = true := by
        simp only [okC, Bool.and_eq_true] at hok ⊢
        exact ⟨⟨by simp, hok.1.2⟩, hok.2⟩
      have hhd : ∀ i ∈ Region.ready md ops listed, i ∈ headsC (.alt x y) := fun i hi => by
        simp only [okC, Bool.false_or, Bool.and_eq_true, List.all_eq_true] at hok
        exact List.contains_iff_mem.1 (hok.1.1.2 i hi)
      have hA := altC (P := P) (Q := Q) (S := S) hs (.alt x y) n listed a w hok' h
      refine ⟨fun h0 => ?_, fun j hj => ?_⟩
      · exfalso
        simp only [okC, Bool.false_or, Bool.and_eq_true] at hok
        have := hok.1.1.1
        rw [h0] at this
        cases this
      · obtain ⟨r, h1, h2, h3⟩ := hA j (hhd j hj)
        exact wpOX_mono (fun a' w' h' => ⟨fun _ _ => h'.1, ih r (by simp only [szC] at ht h3; omega) n _ _ w' h1 (hcl.set hj) h'.1 h'.2⟩) h2
end
def AWC (P : Program) (N : Nat) (ops : Array Oper) (so : Slots) (ks : List Ent) (t : PC) (Q : Exit → Slots → List Ent → Prop) (s : Slots) (h : List Ent) : Prop :=
  ∀ (B : Base) (w0 : World) (S0 : Nat → Prop) (w : World) (S : Nat → Prop) (a : Act), Sim B N w S s h a → SRel w0 S0 so a.tmps → HRel w0 S0 ks → (∀ b, S0 b → b < w0.heap.size) → w0.heap.size ≤ w.heap.size → (∀ b, S0 b → S b) →
    (∀ b, Kept S0 ks b → w.heap[b]? = w0.heap[b]?) → wpC P ops (postR B N Q) (fun w' => ∀ b, Kept S0 ks b → w'.heap[b]? = w0.heap[b]?) t a w
section
variable {P : Program} {N : Nat} {ops : Array Oper} {so s : Slots} {ks h : List Ent} {Q : Exit → Slots → List Ent → Prop} {r : PC} {i d : Nat} {o : Oper}
theorem awc_end (H : Q .normal s h) : AWC P N ops so ks .stop Q s h := fun B w0 S0 w S a hs _ _ _ _ _ _ => ⟨rfl, S, s, h, H, hs⟩
theorem awc_lo {y y' : AV} {e : Option Ent} (ho : ops[i]? = some o) (hw : Wt ops o s) (H : LV P o so ks e y) (hy : y = y') (hd : o.dst = some d) (hN : Nat.blt d N = true) (K : AWC P N ops ((d, y') :: so) ks r Q ((d, y') :: s) h) : AWC P N ops so ks (.op i 1 r) Q s h := fun B w0 S0 w S a hs hso hks hl hsz hS hk => by
  subst hy
  obtain ⟨v, b, hrun, hv, hb⟩ := H w0 S0 a hso hks
  have hkb : Kept S0 ks b := by
    rcases hb with h1 | ⟨e0, _, h2, h3⟩
    · exact .inl h1
    · exact .inr ⟨e0, h2, h3⟩
  have hv' := hv.mono hS (fun b hb => hk b (.inl hb))
  refine ⟨o, v, ho, .inl ⟨hw.wanted hs.slots, fun w' hw' => hrun w' (hw' b hkb)⟩, ?_⟩
  rw [hd]
  exact K B w0 S0 w S _ (hs.put hv' (blt_lt hN)) (hso.put hv (by rw [hs.size]; exact blt_lt hN)) hks hl hsz hS hk
theorem awc_h {hm : List Ent} (ho : ops[i]? = some o) (hw : Wt ops o s) (hsub : SubH (hm ++ ks) h) (hn : (match o.dst with | some d => look so d | none => none) = none) (H : AOp P N o (Own hm) s h (fun s' h' => AWC P N ops so ks r Q s' h')) : AWC P N ops so ks (.op i 2 r) Q s h := fun B w0 S0 w S a hs hso hks hl hsz hS hk => by
  have hr := hsub.heap hs.heap
  have hkeep : ∀ b, Kept S0 ks b → b < w.heap.size ∧ ¬ Own hm b := fun b hb => by
    rcases hb with h1 | ⟨e, he, h1⟩
    · exact ⟨hs.lt b (hS b h1), fun ⟨e, he, h2⟩ => hr.off e (List.mem_append_left _ he) b h2 (hS b h1)⟩
    · exact ⟨(hr.ent e (List.mem_append_right _ he)).lt b h1, fun ⟨e', he', h2⟩ => (List.pairwise_append.1 hr.sep).2.2 e' he' e he b h2 h1⟩
  refine wpOX_of_if ho ?_
  rw [if_pos (hw.wanted hs.slots)]
  refine H B w S a hs _ _ (fun v w' S' s' h' hK hs' hu => ?_)
  have hk' : ∀ b, Kept S0 ks b → w'.heap[b]? = w0.heap[b]? := fun b hb => (hu.keep b (hkeep b hb).1 (hkeep b hb).2).trans (hk b hb)
  refine ⟨hk', hK B w0 S0 w' S' _ hs' (hso.put0 (fun d e => ?_)) hks hl (Nat.le_trans hsz hu.size) (fun b hb => hu.stab b (hS b hb)) hk'⟩
  rw [e] at hn
  exact hn
theorem awc_alt {p q : PC} (H1 : AWC P N ops so ks p Q s h) (H2 : AWC P N ops so ks q Q s h) : AWC P N ops so ks (.alt p q) Q s h := fun B w0 S0 w S a hs hso hks hl hsz hS hk => ⟨H1 B w0 S0 w S a hs hso hks hl hsz hS hk, H2 B w0 S0 w S a hs hso hks hl hsz hS hk⟩
theorem wpIn_C (S : World → Prop) (t : PC) {id : Nat} {a : Act} {w : World} {Q : Exit → Act → World → Prop} {ro : Option Nat} (hm : P.follows .mixedOrders = true) (hs : Region.noSelect ops = true) (hok : okC .any ops t false ops.size (Array.replicate ops.size false) = true) (hn : ops.toList.all ndO = true)
    (hQ : ∀ c a d v w, Q (.panic c) (a.put d v) w → Q (.panic c) a w) (hS : S w.drew) (h : wpC P ops Q S t a w.drew) : (Code.region id ops true).wpIn (FR ro) 0 P Q a w :=
  wpIn_region_any hm (wpAX.anyIn hn _ _ _ _ (wpAX_of_C (P := P) (Q := Q) (S := S) hs hQ (szC t) t (Nat.le_refl _) _ _ a w.drew hok Closed.start hS h))
theorem awp_C (T : TT P) {ro : Option Nat} {id : Nat} (t : PC) (ks : List Ent) (hn : ops.toList.all ndO = true) (hs0 : Region.noSelect ops = true) (hok : okC .any ops t false ops.size (Array.replicate ops.size false) = true) (hks : SubH ks h) (H : AWC P N ops s ks t Q s h) : AWP P N ro (.region id ops true) Q s h := fun B w S a hs => by
  have hd := hs.drew
  refine Code.wpIn_mono postR_post (wpIn_C (fun w' => ∀ b, Kept S ks b → w'.heap[b]? = w.drew.heap[b]?) t T.mixed hs0 hok hn (fun _ _ _ _ _ h => (by cases h.1)) (fun _ _ => rfl) ?_)
  exact H B w.drew S w.drew S a hd hd.slots (hks.heap hd.heap) hd.lt (Nat.le_refl _) (fun _ h => h) (fun _ _ => rfl)
end
end Go.Tl
end
