/- A closed call in pieces: piece 0. -/
import Derived.Test.YtfiacjdkdjkiiaaEv8
import Derived.Test.YtfiacjdkdjkiiaaEv9
import Derived.Test.YtfiacjdkdjkiiaaEvA
import Derived.Test.YtfiacjdkdjkiiaaEvG
import Derived.Test.YtfiacjdkdjkiiaaEvSaw
namespace Go.Proofs.Ytfiacjdkdjkiiaa
open Go Go.Ev Go.RowKit
set_option maxRecDepth 100000
theorem aw_p0 : piece (lv aw_cx 300) 18 aw_fn.ntmps 4 aw_c0 [128, 95, 124, 130, 97, 126, 228, 313, 626] [3, 1, 2, 6, 4, 5, 8, 7, 0] aw_r0 aw_s0 = some (aw_r1, aw_s1) := by kernel_rfl
end Go.Proofs.Ytfiacjdkdjkiiaa
