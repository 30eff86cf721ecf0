/- The document's example: plain. -/
import Derived.Test.YteaoclpikdmkiaaOe
namespace Go.Proofs.Yteaoclpikdmkiaa
open Go Go.RowKit Go.Tl
set_option linter.unusedVariables false
set_option linter.unusedSimpArgs false
set_option maxRecDepth 100000
/-- whether sales have all that is recorded, by the records -/
def explC (rec : List SaleD) (out : List Int) (l : List SaleD) : Bool := (List.range rec.length).all fun i => decide (recN rec out (rec.getD i default) rec.length ≤ cntN l (rec.getD i default) l.length)
theorem rec_zero {rec : List SaleD} {out : List Int} {s : SaleD} : ∀ k, k ≤ rec.length → (∀ i, i < rec.length → rec.getD i default ≠ s) → recN rec out s k = 0
  | 0, _, _ => rfl
  | k + 1, hk, h => by
    simp only [recN]
    rw [if_neg (fun h' => h k (by omega) h'.2)]
    exact rec_zero k (by omega) h
theorem expl_eq (rec : List SaleD) (out : List Int) (l : List SaleD) : explB (recF rec out) l = explC rec out l := by
  rw [Bool.eq_iff_iff, expl_iff]
  unfold explC
  simp only [List.all_eq_true, List.mem_range, decide_eq_true_eq]
  constructor
  · intro h i _
    exact h _
  · intro h s
    by_cases c : ∃ i, i < rec.length ∧ rec.getD i default = s
    · obtain ⟨i, hi, e⟩ := c
      have := h i hi
      rw [e] at this
      exact this
    · show recN rec out s rec.length ≤ _
      rw [rec_zero rec.length (Nat.le_refl _) (fun i hi e => c ⟨i, hi, e⟩)]
      exact (cnt_bd l s l.length).1
def fourP : PostD := ⟨[⟨false, 40, 5, 1, 3⟩, ⟨false, 38, 4, 2, 2⟩, ⟨true, 41, 6, 2, 4⟩, ⟨true, 37, 3, 0, 0⟩]⟩
def oneS : SaleD := ⟨2, 0, 2, 41⟩
def otherS : SaleD := ⟨2, 0, 2, 40⟩
theorem four_play : playR fourP [1, 2, 3, 0] = ([⟨2, 1, 4, 38⟩, otherS], 0) := by kernel_rfl
theorem four_fills : fillsR fourP = ([(2, 2), (4, 4), (6, 6), (0, 0)], [(80, 82), (152, 152), (232, 234), (0, 0)], 0) := by kernel_rfl
theorem four_surely : surelyR fourP = ([1, 2], 0) := by kernel_rfl
theorem four_open : openR fourP = (40, 6, 0) := by kernel_rfl
/-- what Explain returns, to be carried out -/
def explainC (p : PostD) (l : List SaleD) : List Int × Int :=
  if recdN p l ≠ 0 then ([], recdN p l) else if ((leaves p).any fun x => explC l [] x.1) = true then (lastM (uptoL (fun x => explC l [] x.1) (leaves p)), 0) else ([], 11)
theorem explain_eq (p : PostD) (l : List SaleD) : explainR p l = explainC p l := by
  unfold explainR explainC
  simp only [expl_eq]
def canC (p : PostD) (l : List SaleD) (o : List Nat) : Bool := (leaves p).any fun x => explC l (natsI o) x.1
theorem can_eq (p : PostD) (l : List SaleD) (o : List Nat) : canB p l o = canC p l o := by
  unfold canB canC
  simp only [expl_eq]
def leaveC (p : PostD) (l : List SaleD) : List Int × Int := if recdN p l ≠ 0 then ([], recdN p l) else (natsI (match (sizesL l.length 0).find? (fun e => canC p l ([] ++ e)) with | some e => [] ++ e | none => []), 0)
theorem leave_eq (p : PostD) (l : List SaleD) : leaveR p l = leaveC p l := by
  unfold leaveR leaveC leR
  simp only [can_eq]
  split
  · rfl
  · cases (sizesL l.length 0).find? (fun e => canC p l ([] ++ e)) <;> rfl
def proveC (p : PostD) (t : List Int) (l : List SaleD) : Bool := decide (recdN p l = 0) && (truthB p t && explC l [] (playT p t))
theorem prove_eq (p : PostD) (t : List Int) (l : List SaleD) : proveB p t l = proveC p t l := by
  unfold proveB proveC
  rw [expl_eq]
theorem four_explain : explainR fourP [oneS] = ([3, 2, 2, 0], 0) := by rw [explain_eq]; kernel_rfl
theorem four_leave : leaveR fourP [oneS, otherS] = ([0], 0) := by rw [leave_eq]; kernel_rfl
theorem four_prove : proveB fourP [3, 2, 2, 0] [oneS] = true := by rw [prove_eq]; kernel_rfl
end Go.Proofs.Yteaoclpikdmkiaa
