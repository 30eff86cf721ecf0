/- A closed call in pieces: the last piece. -/
import Derived.Test.YtilhflfbbfeakaaEvSrn
namespace Go.Proofs.Ytilhflfbbfeakaa
open Go Go.Ev Go.RowKit
set_option maxRecDepth 100000
theorem rn_p0 : lastV rn_cx (lv rn_cx 300) 14 rn_fn rn_c0 rn_r0 rn_s0 = some (.bool true) := by kernel_rfl
end Go.Proofs.Ytilhflfbbfeakaa
