/- The order of stocks by their prices: plain; and the walk over cmp.Compare. -/
import Derived.Test.YtfiacjdkdjkiiaaGWb
namespace Go.Proofs.Ytfiacjdkdjkiiaa
open Go.RowKit
set_option linter.unusedVariables false
set_option linter.unusedSimpArgs false

def cmpN (x y : Int) : Int := if x < y then -1 else if y < x then 1 else 0
theorem nan_any (x : Int) (w : World) : Calls Try.prog 111 #[.int .i64 x] w fun e w' => e = .returned (.bool false) ∧ w = w' := by
  go_enter Try.func111, Try.ntmps111
  go_wp2
  go_ret
  exact ⟨by simp, rfl⟩
theorem compare_any (x y : Int) (w : World) : Calls Try.prog 103 #[.int .i64 x, .int .i64 y] w fun e w' => e = .returned (.int .i64 (cmpN x y)) ∧ w = w' := by
  by_cases h1 : x < y
  · have HF : Hid (cmpN x y = -1) := by show cmpN x y = -1; simp [cmpN, h1]
    go_enter Try.func103, Try.ntmps103
    go_wp2_with (go_at_call 111; refine (nan_any _ _).mono ?_; rintro e w' ⟨rfl, rfl⟩)
    go_ret
    exact ⟨ret_int HF.out.symm, rfl⟩
  · by_cases h2 : y < x
    · have HF : Hid (cmpN x y = 1) := by show cmpN x y = 1; simp [cmpN, h1, h2]
      go_enter Try.func103, Try.ntmps103
      go_wp2_with (go_at_call 111; refine (nan_any _ _).mono ?_; rintro e w' ⟨rfl, rfl⟩)
      go_ret
      exact ⟨ret_int HF.out.symm, rfl⟩
    · have HF : Hid (cmpN x y = 0) := by show cmpN x y = 0; simp [cmpN, h1, h2]
      go_enter Try.func103, Try.ntmps103
      go_wp2_with (go_at_call 111; refine (nan_any _ _).mono ?_; rintro e w' ⟨rfl, rfl⟩)
      go_ret
      exact ⟨ret_int HF.out.symm, rfl⟩

def pk (p : List Int) (x : Int) : Int := p.getD x.toNat 0
def SortTo (p : List Int) (ys : List Int) (i : Nat) : Prop := ∀ a b, a < b → b < i → pk p (ys.getD b 0) ≤ pk p (ys.getD a 0)
def SortBut (p : List Int) (ys : List Int) (i j : Nat) : Prop := ∀ a b, a < b → b ≤ i → b ≠ j → pk p (ys.getD b 0) ≤ pk p (ys.getD a 0)
def swp (ys : List Int) (j : Nat) : List Int := (ys.set j (ys.getD (j - 1) 0)).set (j - 1) (ys.getD j 0)
theorem getD_set (ys : List Int) (k m : Nat) (x : Int) (hm : m < ys.length) : (ys.set k x).getD m 0 = if k = m then x else ys.getD m 0 := by
  rw [List.getD_eq_getElem?_getD, List.getElem?_set]
  by_cases e : k = m
  · subst e; simp [hm]
  · simp [e]
theorem swp_get (ys : List Int) (j m : Nat) (hj : j < ys.length) (h0 : 0 < j) (hm : m < ys.length) : (swp ys j).getD m 0 = if m = j - 1 then ys.getD j 0 else if m = j then ys.getD (j - 1) 0 else ys.getD m 0 := by
  unfold swp
  rw [getD_set _ _ _ _ (by simpa using hm), getD_set _ _ _ _ hm]
  by_cases h1 : m = j - 1
  · simp [h1]
  · rw [if_neg (fun e => h1 e.symm), if_neg h1]
    by_cases h2 : m = j
    · simp [h2]
    · rw [if_neg (fun e => h2 e.symm), if_neg h2]
theorem swp_len (ys : List Int) (j : Nat) : (swp ys j).length = ys.length := by simp [swp]
theorem swp_perm (ys : List Int) (j : Nat) (hj : j < ys.length) : (swp ys j).Perm ys := by
  have h := Array.swap_perm (xs := ys.toArray) (i := j) (j := j - 1) (by simpa using hj) (by simp; omega)
  rw [Array.perm_iff_toList_perm, Array.toList_swap] at h
  simpa [swp, List.getD_eq_getElem?_getD, hj, show j - 1 < ys.length by omega] using h
theorem SortBut.start {p ys : List Int} {i : Nat} (h : SortTo p ys i) : SortBut p ys i i := fun a b h1 h2 h3 => h a b h1 (by omega)
theorem SortBut.done0 {p ys : List Int} {i : Nat} (h : SortBut p ys i 0) : SortTo p ys (i + 1) := fun a b h1 h2 => h a b h1 (by omega) (by omega)
theorem SortBut.done {p ys : List Int} {i j : Nat} (h : SortBut p ys i j) (hj : j ≤ i) (h0 : 0 < j) (hle : pk p (ys.getD j 0) ≤ pk p (ys.getD (j - 1) 0)) : SortTo p ys (i + 1) := fun a b h1 h2 => by
  by_cases e : b = j
  · subst e
    by_cases e2 : a = b - 1
    · subst e2; exact hle
    · exact Int.le_trans hle (h a (b - 1) (by omega) (by omega) (by omega))
  · exact h a b h1 (by omega) e
theorem SortBut.step {p ys : List Int} {i j : Nat} (h : SortBut p ys i j) (hj : j ≤ i) (hi : i < ys.length) (h0 : 0 < j) (hlt : pk p (ys.getD (j - 1) 0) < pk p (ys.getD j 0)) : SortBut p (swp ys j) i (j - 1) := fun a b h1 h2 h3 => by
  rw [swp_get _ _ _ (by omega) h0 (by omega), swp_get _ _ _ (by omega) h0 (by omega), if_neg h3]
  by_cases e : b = j
  · rw [if_pos e]
    by_cases e2 : a = j - 1
    · rw [if_pos e2]; omega
    · rw [if_neg e2, if_neg (by omega)]
      exact h a (j - 1) (by omega) (by omega) (by omega)
  · rw [if_neg e]
    by_cases e2 : a = j - 1
    · rw [if_pos e2]; exact h j b (by omega) h2 e
    · rw [if_neg e2]
      by_cases e3 : a = j
      · rw [if_pos e3]; exact h (j - 1) b (by omega) h2 e
      · rw [if_neg e3]; exact h a b h1 h2 e
theorem cmp_neg {x y : Int} (h : x < y) : decide (cmpN x y < 0) = true := by simp [cmpN, h]
theorem cmp_nonneg {x y : Int} (h : ¬ x < y) : decide (cmpN x y < 0) = false := by
  unfold cmpN; rw [if_neg h]; split <;> simp

end Go.Proofs.Ytfiacjdkdjkiiaa
