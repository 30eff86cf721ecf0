/- Joined texts: Wm, Mm, Pt. -/
import Derived.Test.YtfiacjdkdjkiiaaGWa
import Derived.Test.YtfiacjdkdjkiiaaGCo
section
namespace Go.Proofs.Ytfiacjdkdjkiiaa
open Go.RowKit
set_option linter.unusedVariables false


end Go.Proofs.Ytfiacjdkdjkiiaa
end
section
namespace Go.Tl
open Go Go.RowKit
set_option linter.unusedVariables false
end Go.Tl
namespace Go.Proofs.Ytfiacjdkdjkiiaa
open Go Go.RowKit Go.Tl
set_option linter.unusedVariables false
theorem within_p (n lo hi : Int) : PCall Try.prog 69 [intA n, intA lo, intA hi] (fun r => r = boolA (inB n lo hi)) := pcall_below fun w S vs hvs => by
  obtain ⟨v, us, rfl, k1, hvs⟩ := rels1 hvs
  obtain ⟨v2, us, rfl, k2, hvs⟩ := rels1 hvs
  obtain ⟨v3, us, rfl, k3, hvs⟩ := rels1 hvs
  obtain rfl := rels0 hvs
  rw [k1.lit_inv, k2.lit_inv, k3.lit_inv]
  exact (within_any n lo hi w).mono fun e w' ⟨e1, hb⟩ => ⟨_, _, e1, rfl, by subst hb; exact Below.refl _ _, .v _⟩
theorem within_v {n lo hi : Int} {b : Bool} (h : inB n lo hi = b) : PCall Try.prog 69 [intA n, intA lo, intA hi] (fun r => r = boolA b) := by subst h; exact within_p n lo hi
end Go.Proofs.Ytfiacjdkdjkiiaa
end
section
namespace Go.Proofs.Ytfiacjdkdjkiiaa
open Go.RowKit
set_option linter.unusedVariables false
set_option linter.unusedSectionVars false
def cnt (p : Nat → Bool) : Nat → Nat
  | 0 => 0
  | m + 1 => cnt p m + if p m then 1 else 0
def beats (r : Nat → Int) (k i : Nat) : Bool := decide (r i < r k) || decide (r k = r i ∧ k < i)
def bef (r : Nat → Int) (m i : Nat) : Nat := cnt (fun k => beats r k i) m
def sumF (f : Nat → Int) : Nat → Int
  | 0 => 0
  | m + 1 => sumF f m + f m
section
variable {l : List Int} {s t : Int} {m : Nat} (ht : sumF (fun k => l.getD k 0) m = t) (h : 0 < t) (hs : 0 ≤ s ∧ s ≤ t) (hl : ∀ k, k < m → 0 ≤ l.getD k 0)
include ht h hs hl
end
end Go.Proofs.Ytfiacjdkdjkiiaa
end
