/- A closed call in pieces: piece 1. -/
import Derived.Test.YtfiacjdkdjkiiaaEvSnm
namespace Go.Proofs.Ytfiacjdkdjkiiaa
open Go Go.Ev Go.RowKit
set_option maxRecDepth 100000
theorem nm_p1 : piece (lv cxE 3000) 15 nm_fn.ntmps 13 nm_c1 [75704, 75658, 75656, 75657, 75661, 75659, 75660, 75705, 75668, 75666, 75667, 75706, 75672, 75670, 75671, 75675, 75673, 75674, 75707, 75679, 75677, 75678, 75682, 75680, 75681, 75708, 75686, 75684, 75685, 75689, 75687, 75688, 75709, 75693, 75691, 75692, 75696, 75711, 75695, 75710, 75700, 75698, 75699, 75703, 75701, 75702] [3, 5, 7, 12, 14, 16, 18, 20, 22, 24, 26, 27, 28, 29, 30, 31, 32, 33, 0] nm_r1 nm_s1 = some (nm_r2, nm_s2) := by kernel_rfl
end Go.Proofs.Ytfiacjdkdjkiiaa
