/- A closed call in pieces: the last piece. -/
import Derived.Test.YtfiacjdkdjkiiaaEv8
import Derived.Test.YtfiacjdkdjkiiaaEv9
import Derived.Test.YtfiacjdkdjkiiaaEvA
import Derived.Test.YtfiacjdkdjkiiaaEvG
import Derived.Test.YtfiacjdkdjkiiaaEvSaw
namespace Go.Proofs.Ytfiacjdkdjkiiaa
open Go Go.Ev Go.RowKit
set_option maxRecDepth 100000
theorem aw_p1 : lastV aw_cx (lv aw_cx 300) 18 aw_fn aw_c1 aw_r1 aw_s1 = some (.bool true) := by kernel_rfl
end Go.Proofs.Ytfiacjdkdjkiiaa
