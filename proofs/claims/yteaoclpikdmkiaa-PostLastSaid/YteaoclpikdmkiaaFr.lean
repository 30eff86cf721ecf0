/- Rows of numbers. -/
import Derived.Test.YteaoclpikdmkiaaGTx
namespace Go.Proofs.Yteaoclpikdmkiaa
open Go Go.RowKit Go.Tl
set_option linter.unusedVariables false
set_option linter.unusedSimpArgs false
def fRows (f : Nat → Int) (m : Nat) : List (List AV) := (List.range m).map fun k => intRow (f k)
theorem fRows_eq (f : Nat → Int) (m : Nat) : fRows f m = ((List.range m).map f).map intRow := by simp [fRows]
theorem fRows_len (f : Nat → Int) (m : Nat) : (fRows f m).length = m := by simp [fRows]
theorem fRows_at {f : Nat → Int} {m j : Nat} (hj : j < m) : ((fRows f m).getD j [])[0]? = some (intA (f j)) := by
  simp [fRows, List.getD_eq_getElem?_getD, hj, intRow]
theorem fRows_step (f : Nat → Int) (m : Nat) : fRows f (m + 1) = fRows f m ++ [[intA (f m)]] := by
  simp only [fRows]; rw [List.range_succ, List.map_append]; rfl
theorem fRows_set {f g : Nat → Int} {m j : Nat} {v : Int} (hj : j < m) (hg : ∀ k, k < m → g k = if k = j then v else f k) : (fRows f m).set j (spA ((fRows f m).getD j []) 0 [intA v]) = fRows g m := by
  have e : spA ((fRows f m).getD j []) 0 [intA v] = intRow v := by simp [fRows, List.getD_eq_getElem?_getD, hj, intRow, spA]
  rw [e]
  refine List.ext_getElem? fun k => ?_
  rw [List.getElem?_set]
  simp only [fRows, List.length_map, List.length_range, List.getElem?_map]
  by_cases hk : k < m
  · rw [List.getElem?_range hk]
    have := hg k hk
    by_cases e : j = k
    · subst e; simp [hj, this]
    · rw [if_neg e, Option.map_some, Option.map_some, this, if_neg (fun h => e h.symm)]
  · rw [List.getElem?_eq_none (l := List.range m) (by simp; omega)]
    simp; omega
theorem fRows_tree {f : Nat → Int} {xs : List Int} {m : Nat} (h : xs = (List.range m).map f) : ∀ k, k < m → (fRows f m).getD k [] = ((fun k => [.sc (.int .i64 (xs.getD k 0))]) k : List Tr).map AV.ofTr := fun k hk => by
  subst h
  simp [fRows, List.getD_eq_getElem?_getD, hk, intRow, AV.ofTr]
end Go.Proofs.Yteaoclpikdmkiaa
