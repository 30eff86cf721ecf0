/- A closed call in pieces: piece 2. -/
import Derived.Test.YtilhflfbbfeakaaEvSaw
namespace Go.Proofs.Ytilhflfbbfeakaa
open Go Go.Ev Go.RowKit
set_option maxRecDepth 100000
theorem aw_p2 : piece (lv cxE 300) 17 aw_fn.ntmps 1 aw_c2 [32, 95, 171, 591, 738, 2591, 2781, 3352, 3349] [2, 1, 4, 3, 6, 5, 9, 7, 8, 12, 10, 11, 14, 13, 0] aw_r2 aw_s2 = some (aw_r3, aw_s3) := by kernel_rfl
end Go.Proofs.Ytilhflfbbfeakaa
