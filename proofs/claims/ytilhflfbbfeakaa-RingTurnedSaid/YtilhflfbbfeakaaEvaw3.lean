/- A closed call in pieces: the last piece. -/
import Derived.Test.YtilhflfbbfeakaaEvSaw
namespace Go.Proofs.Ytilhflfbbfeakaa
open Go Go.Ev Go.RowKit
set_option maxRecDepth 100000
theorem aw_p3 : lastV cxE (lv cxE 300) 17 aw_fn aw_c3 aw_r3 aw_s3 = some (.bool true) := by kernel_rfl
end Go.Proofs.Ytilhflfbbfeakaa
