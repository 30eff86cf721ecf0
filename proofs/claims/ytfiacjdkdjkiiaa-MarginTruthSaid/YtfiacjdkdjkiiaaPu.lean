/- Parts of a sum: what Parts returns, as plain data. -/
import Derived.Test.YtfiacjdkdjkiiaaGMm
import Derived.Test.YtfiacjdkdjkiiaaGTx
import Derived.Test.YtfiacjdkdjkiiaaTt
namespace Go.Proofs.Ytfiacjdkdjkiiaa
open Go Go.RowKit Go.Tl
set_option linter.unusedVariables false
theorem foldl_max_ge (l : List Int) (x : Int) : x ≤ l.foldl max x := by
  induction l generalizing x with
  | nil => exact Int.le_refl _
  | cons y l ih => have := ih (max x y); simp only [List.foldl_cons]; omega
theorem foldl_max_mem_le (l : List Int) (x y : Int) (h : y ∈ l) : y ≤ l.foldl max x := by
  induction l generalizing x with
  | nil => cases h
  | cons z l ih =>
    simp only [List.foldl_cons]
    rcases List.mem_cons.1 h with rfl | h
    · have := foldl_max_ge l (max x y); omega
    · exact ih _ h
theorem foldl_max_in (l : List Int) (x : Int) : l.foldl max x = x ∨ l.foldl max x ∈ l := by
  induction l generalizing x with
  | nil => exact .inl rfl
  | cons z l ih =>
    simp only [List.foldl_cons]
    rcases ih (max x z) with h | h
    · rw [h]
      rcases Int.le_total x z with h1 | h1
      · right; rw [Int.max_eq_right h1]; exact List.mem_cons_self
      · left; exact Int.max_eq_left h1
    · right; exact List.mem_cons_of_mem _ h
theorem le_maxL {l : List Int} {y : Int} (h : y ∈ l) : y ≤ maxL l := by
  cases l with
  | nil => cases h
  | cons x l =>
    show y ≤ l.foldl max x
    rcases List.mem_cons.1 h with rfl | h
    · exact foldl_max_ge l _
    · exact foldl_max_mem_le l x y h
theorem maxL_in {l : List Int} (h : 1 ≤ l.length) : maxL l ∈ l := by
  cases l with
  | nil => simp at h
  | cons x l =>
    show l.foldl max x ∈ x :: l
    rcases foldl_max_in l x with h | h
    · rw [h]; exact List.mem_cons_self
    · exact List.mem_cons_of_mem _ h
def rstL (r : Nat → Int) (m c : Nat) : List Int := (List.range m).map (rstN r m c)
theorem rst_le {r : Nat → Int} {m c k : Nat} (hk : k < m) : rstN r m c k ≤ maxL (rstL r m c) := le_maxL (List.mem_map.2 ⟨k, List.mem_range.2 hk, rfl⟩)
theorem rst_in {r : Nat → Int} {m : Nat} (c : Nat) (hm : 1 ≤ m) : ∃ k, k < m ∧ rstN r m c k = maxL (rstL r m c) := by
  obtain ⟨k, hk, e⟩ := List.mem_map.1 (maxL_in (l := rstL r m c) (by simp [rstL]; exact hm))
  exact ⟨k, List.mem_range.1 hk, e⟩
def fRows (f : Nat → Int) (m : Nat) : List (List AV) := (List.range m).map fun k => intRow (f k)
theorem fRows_eq (f : Nat → Int) (m : Nat) : fRows f m = ((List.range m).map f).map intRow := by simp [fRows]
theorem fRows_len (f : Nat → Int) (m : Nat) : (fRows f m).length = m := by simp [fRows]
theorem fRows_at {f : Nat → Int} {m j : Nat} (hj : j < m) : ((fRows f m).getD j [])[0]? = some (intA (f j)) := by
  simp [fRows, List.getD_eq_getElem?_getD, hj, intRow]
theorem fRows_step (f : Nat → Int) (m : Nat) : fRows f (m + 1) = fRows f m ++ [[intA (f m)]] := by
  simp only [fRows]; rw [List.range_succ, List.map_append]; rfl
theorem fRows_set {f g : Nat → Int} {m j : Nat} {v : Int} (hj : j < m) (hg : ∀ k, k < m → g k = if k = j then v else f k) : (fRows f m).set j (spA ((fRows f m).getD j []) 0 [intA v]) = fRows g m := by
  have e : spA ((fRows f m).getD j []) 0 [intA v] = intRow v := by simp [fRows, List.getD_eq_getElem?_getD, hj, intRow, spA]
  rw [e]
  refine List.ext_getElem? fun k => ?_
  rw [List.getElem?_set]
  simp only [fRows, List.length_map, List.length_range, List.getElem?_map]
  by_cases hk : k < m
  · rw [List.getElem?_range hk]
    have := hg k hk
    by_cases e : j = k
    · subst e; simp [hj, this]
    · rw [if_neg e, Option.map_some, Option.map_some, this, if_neg (fun h => e h.symm)]
  · rw [List.getElem?_eq_none (l := List.range m) (by simp; omega)]
    simp; omega
theorem fRows_tree {f : Nat → Int} {xs : List Int} {m : Nat} (h : xs = (List.range m).map f) : ∀ k, k < m → (fRows f m).getD k [] = ((fun k => [.sc (.int .i64 (xs.getD k 0))]) k : List Tr).map AV.ofTr := fun k hk => by
  subst h
  simp [fRows, List.getD_eq_getElem?_getD, hk, intRow, AV.ofTr]
def capN (l : List Int) (i : Nat) : Int := max 0 (min (l.getD i 0) 100000)
def capS (l : List Int) (k : Nat) : Int := sumF (capN l) k
theorem cap_in (l : List Int) (k : Nat) : 0 ≤ capS l k ∧ capS l k ≤ 100000 * k := by
  induction k with
  | zero => exact ⟨Int.le_refl _, by simp [capS, sumF]⟩
  | succ k ih => unfold capS at *; simp only [sumF]; unfold capN at *; omega
theorem cap_eq {l : List Int} (h : l.all (inB · 0 100000) = true) : capS l l.length = sumF (fun k => l.getD k 0) l.length := sumF_congr fun k hk => by
  have h1 := (all_getD (d := (0 : Int))).1 h k hk
  simp only [inB, decide_eq_true_eq] at h1
  unfold capN; omega
theorem all_in {l : List Int} (h : l.all (inB · 0 100000) = true) {k : Nat} (hk : k < l.length) : 0 ≤ l.getD k 0 ∧ l.getD k 0 ≤ 100000 := by
  have h1 := (all_getD (d := (0 : Int))).1 h k hk
  simpa [inB] using h1
def partL (l : List Int) (s t : Int) : List Int := (List.range l.length).map (partN l s t l.length)
/-- what Parts returns -/
def PartsR (l : List Int) (s : Int) (r : AV) : Prop :=
  (4 < l.length ∧ r = .tup [.v (.slice none 0 0), intA 3]) ∨
  (l.length ≤ 4 ∧ (l.all (inB · 0 100000) = false ∨ sumF (fun k => l.getD k 0) l.length = 0) ∧ r = .tup [.v (.slice none 0 0), intA 1]) ∨
  (l.length ≤ 4 ∧ l.all (inB · 0 100000) = true ∧ 0 < sumF (fun k => l.getD k 0) l.length ∧ inB s 0 (sumF (fun k => l.getD k 0) l.length) = false ∧ r = .tup [.v (.slice none 0 0), intA 2]) ∨
  (l.length ≤ 4 ∧ l.all (inB · 0 100000) = true ∧ 0 < sumF (fun k => l.getD k 0) l.length ∧ inB s 0 (sumF (fun k => l.getD k 0) l.length) = true ∧
    Given (rN l s (sumF (fun k => l.getD k 0) l.length)) l.length (leftN l s (sumF (fun k => l.getD k 0) l.length) l.length).toNat ∧
    r = .tup [.t (intsT true (partL l s (sumF (fun k => l.getD k 0) l.length))), intA 0])
end Go.Proofs.Ytfiacjdkdjkiiaa
