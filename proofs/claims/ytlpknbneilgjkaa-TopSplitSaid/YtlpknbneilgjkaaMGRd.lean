/- Joined texts: Wt, Rp, Rd. -/
import Derived.Test.YtlpknbneilgjkaaMGWa
import Derived.Test.YtlpknbneilgjkaaMGCo
import Derived.Test.YtlpknbneilgjkaaTt
import Derived.Test.YtlpknbneilgjkaaGOb
import Derived.Test.YtlpknbneilgjkaaGPa
import Derived.Test.YtlpknbneilgjkaaGTs
import Derived.Test.YtlpknbneilgjkaaGTy
section
namespace Go.Proofs.Ytlpknbneilgjkaa.M
open Go.RowKit
set_option linter.unusedVariables false

def thinB (b : BankD) (t : TruthD) : Bool := decide (b.days.length ≤ 7) && decide (b.loans.length ≤ 7) && decide (t.prices.length ≤ 7) && decide (t.rates.length ≤ 7) &&
  b.days.all (fun d => decide (d.prices.length ≤ 7)) && b.loans.all (fun d => decide (d.shares.length ≤ 7)) && t.prices.all (fun d => decide (d.length ≤ 7))
end Go.Proofs.Ytlpknbneilgjkaa.M
end
section
namespace Go.Proofs.Ytlpknbneilgjkaa.M
open Go Go.RowKit Go.Tl
set_option linter.unusedVariables false
end Go.Proofs.Ytlpknbneilgjkaa.M
end
section
namespace Go.Proofs.Ytlpknbneilgjkaa.M
open Go Go.RowKit Go.Tl
set_option linter.unusedVariables false
set_option linter.unusedSimpArgs false
set_option maxHeartbeats 2000000
attribute [local irreducible] AWP AWL AOp PV LV AWT AWE
end Go.Proofs.Ytlpknbneilgjkaa.M
end
