/- The smallest corner: plain. -/
import Derived.Test.YtallicfckbdeaaaLo
namespace Go.Proofs.Ytallicfckbdeaaa
open Go Go.RowKit Go.Tl
set_option linter.unusedVariables false
set_option linter.unusedSimpArgs false
/-- whether the stock is surely cornered without some houses -/
abbrev coB (m : MktD) (l : List Int) : Bool := decide (0 < (bndN (keepM m l)).1)
theorem corn_min {m : MktD} (hf : faultN m = 0) (hp : possB m = true) : (∃ Y, cornR m = (Y, 0) ∧ MinC (coB m) (sellB m) m.hou.length Y) ∨ (cornR m = ([], 7) ∧ ∀ e, Ext m.hou.length e 0 → (∀ x ∈ e, sellB m x.toNat = true) → coB m e = false) := by
  unfold cornR
  rw [if_neg (fun c => c (by rw [asked_yes hf hp]))]
  cases h : fndL (corB m) [] (sizesC (sellB m) m.hou.length 0) with
  | none => exact .inr ⟨rfl, fnd_none (B := coB m) (C := corB m) (fun o => rfl) h⟩
  | some e => exact .inl ⟨natsI e, rfl, fnd_some (B := coB m) (C := corB m) (fun o => rfl) h⟩
theorem keepL_fault {m : MktD} (hf : faultN m = 0) (l : List Int) (hl : ∀ x ∈ l, 0 ≤ x ∧ x < m.hou.length) : faultN (keepM m l) = 0 := by
  have hv := vmkt hf
  have hvo := keep_ok hv (fun x hx => (hl x hx).1)
  have h1 : (keepM m l).hou.length = m.hou.length := keep_len _ _
  unfold faultN at hf ⊢
  show (if 6 < (keepM m l).hou.length ∨ 8 < m.con.length then (3 : Int) else if (inB m.ex 1 200 = true ∧ (keepM m l).hou.length ≠ 0) ∧ (keepM m l).hou.all houB = true ∧ m.con.all (conB (keepM m l).hou.length) = true then 0 else 1) = 0
  have hall : (keepM m l).hou.all houB = true := by
    refine (all_getD (d := (default : HouD))).2 fun i hi => ?_
    have a := hvo.held i hi
    have b := hvo.ask i hi
    simp only [houB, Bool.and_eq_true, inB_iff, decide_eq_true_eq]
    exact ⟨a.1, a.2.1, a.2.2, b⟩
  rw [h1]
  split at hf
  · cases hf
  · rename_i h0
    rw [if_neg h0]
    split at hf
    · rename_i h1
      rw [if_pos ⟨h1.1, hall, h1.2.2⟩]
    · cases hf
/-- what corners more houses too -/
theorem keep_more {m : MktD} {l r : List Int} (hf : faultN m = 0) (hp : possB m = true) (hl : ∀ x ∈ l, 0 ≤ x ∧ x < m.hou.length) (hr : ∀ x ∈ r, 0 ≤ x) : lowN (keepM m l) ≤ lowN (keepM (keepM m l) r) :=
  keep_low (vmkt (keepL_fault hf l hl)) hr (by rw [keep_poss (vmkt hf) (fun x hx => (hl x hx).1)]; exact hp)
end Go.Proofs.Ytallicfckbdeaaa
