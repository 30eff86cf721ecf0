/- Truths of a bank, as a test. No program in sight. -/
import Derived.Test.YtfiacjdkdjkiiaaVd
namespace Go.Proofs.Ytfiacjdkdjkiiaa
open Go.RowKit
set_option linter.unusedVariables false
/-- a row of prices is one of a day's -/
def rowB (d : DayD) (row : List Int) : Bool := (List.range d.prices.length).all fun k => inB (row.getD k 0) (d.prices.getD k default).lo (d.prices.getD k default).hi
def dayOkB (b : BankD) (t : TruthD) (i : Nat) : Bool := decide (((t.prices.getD i []).length : Int) = b.stocks) && inB (t.rates.getD i 0) (b.days.getD i default).rate.lo (b.days.getD i default).rate.hi && rowB (b.days.getD i default) (t.prices.getD i [])
/-- a truth is one of a bank -/
def truthB (b : BankD) (t : TruthD) : Bool := decide (t.prices.length = b.days.length) && decide (t.rates.length = b.days.length) && (List.range b.days.length).all (dayOkB b t)
theorem rangeAll_false {p : Nat → Bool} {n k : Nat} (h : k < n) (hp : p k = false) : (List.range n).all p = false := by
  cases e : (List.range n).all p
  · rfl
  · rw [List.all_eq_true.1 e k (List.mem_range.2 h)] at hp; cases hp
theorem rangeAll_true {p : Nat → Bool} {n : Nat} (h : ∀ k, k < n → p k = true) : (List.range n).all p = true := List.all_eq_true.2 fun k hk => h k (List.mem_range.1 hk)
end Go.Proofs.Ytfiacjdkdjkiiaa
