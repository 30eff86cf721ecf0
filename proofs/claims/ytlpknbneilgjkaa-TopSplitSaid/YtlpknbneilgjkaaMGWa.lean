/- Joined texts: W1, W3, W4, W5, W6, W7. -/
import Derived.Test.YtlpknbneilgjkaaMGBs
import Derived.Test.YtlpknbneilgjkaaTt
import Derived.Test.YtlpknbneilgjkaaGOb
import Derived.Test.YtlpknbneilgjkaaGPa
import Derived.Test.YtlpknbneilgjkaaGTs
import Derived.Test.YtlpknbneilgjkaaGTy
section
namespace Go.Proofs.Ytlpknbneilgjkaa.M
open Go.RowKit
set_option linter.unusedVariables false

theorem take_succ_getD {α : Type} {l : List α} {k : Nat} (d : α) (h : k < l.length) : l.take (k + 1) = l.take k ++ [l.getD k d] := by
  rw [List.take_succ_eq_append_getElem h, List.getD_eq_getElem?_getD, List.getElem?_eq_getElem h]; rfl

end Go.Proofs.Ytlpknbneilgjkaa.M
end
section
namespace Go.Proofs.Ytlpknbneilgjkaa.M
open Go.RowKit
set_option linter.unusedVariables false

end Go.Proofs.Ytlpknbneilgjkaa.M
end
section
namespace Go.Proofs.Ytlpknbneilgjkaa.M
open Go.RowKit
set_option linter.unusedVariables false

end Go.Proofs.Ytlpknbneilgjkaa.M
end
section
namespace Go.Proofs.Ytlpknbneilgjkaa.M
open Go.RowKit
set_option linter.unusedVariables false

end Go.Proofs.Ytlpknbneilgjkaa.M
end
section
namespace Go.Proofs.Ytlpknbneilgjkaa.M
open Go.RowKit
set_option linter.unusedVariables false

end Go.Proofs.Ytlpknbneilgjkaa.M
end
section
namespace Go.Proofs.Ytlpknbneilgjkaa.M
open Go.RowKit
set_option linter.unusedVariables false

def Short (b : BankD) : Prop := (∀ k, k < b.days.length → (b.days.getD k default).prices.length ≤ 1000) ∧ (∀ k, k < b.loans.length → (b.loans.getD k default).shares.length ≤ 1000) ∧ b.days.length ≤ 1000 ∧ b.loans.length ≤ 1000

end Go.Proofs.Ytlpknbneilgjkaa.M
end
