/- A closed call in pieces: the last piece. -/
import Derived.Test.YtfiacjdkdjkiiaaEvSnm
namespace Go.Proofs.Ytfiacjdkdjkiiaa
open Go Go.Ev Go.RowKit
set_option maxRecDepth 100000
theorem nm_p2 : lastV cxE (lv cxE 3000) 15 nm_fn nm_c2 nm_r2 nm_s2 = some (.bool true) := by kernel_rfl
end Go.Proofs.Ytfiacjdkdjkiiaa
