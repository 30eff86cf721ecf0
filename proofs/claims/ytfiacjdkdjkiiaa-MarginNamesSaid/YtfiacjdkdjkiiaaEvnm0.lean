/- A closed call in pieces: piece 0. -/
import Derived.Test.YtfiacjdkdjkiiaaEvSnm
namespace Go.Proofs.Ytfiacjdkdjkiiaa
open Go Go.Ev Go.RowKit
set_option maxRecDepth 100000
theorem nm_p0 : piece (lv cxE 200) 15 nm_fn.ntmps 16 nm_c0 [33847, 33843, 33841, 33842, 33846, 33844, 33845, 33852, 33850, 33848, 33849, 33851] [9, 10, 3, 5, 7, 12, 14, 16, 0] nm_r0 nm_s0 = some (nm_r1, nm_s1) := by kernel_rfl
end Go.Proofs.Ytfiacjdkdjkiiaa
