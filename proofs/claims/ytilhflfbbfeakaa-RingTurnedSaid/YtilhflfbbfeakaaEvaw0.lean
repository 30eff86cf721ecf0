/- A closed call in pieces: piece 0. -/
import Derived.Test.YtilhflfbbfeakaaEvSaw
namespace Go.Proofs.Ytilhflfbbfeakaa
open Go Go.Ev Go.RowKit
set_option maxRecDepth 100000
theorem aw_p0 : piece (lv cxE 300) 17 aw_fn.ntmps 5 aw_c0 [32, 95, 171, 591, 738] [2, 1, 4, 3, 6, 5, 9, 7, 8, 0] aw_r0 aw_s0 = some (aw_r1, aw_s1) := by kernel_rfl
end Go.Proofs.Ytilhflfbbfeakaa
