/- A closed call in pieces, put together. -/
import Derived.Test.YtfiacjdkdjkiiaaEvnm0
import Derived.Test.YtfiacjdkdjkiiaaEvnm1
import Derived.Test.YtfiacjdkdjkiiaaEvnm2
namespace Go.Proofs.Ytfiacjdkdjkiiaa
open Go Go.Ev Go.RowKit
set_option maxRecDepth 100000
theorem nm_hf : cxE.P.funcs[15]? = some nm_fn := by kernel_rfl
theorem nm_hc : nm_fn.body = some nm_c0 := by kernel_rfl
theorem nm_hp : (cxE.pl.get 15).isSome = true := by kernel_rfl
theorem nm_t2 : Go.Ev.Rest cxE 15 nm_fn nm_c2 nm_r2 nm_s2 (.bool true) := rest_last cokE nm_p2 rfl
theorem nm_t1 : Go.Ev.Rest cxE 15 nm_fn nm_c1 nm_r1 nm_s1 (.bool true) := rest_piece cokE nm_p1 rfl nm_t2
theorem nm_t0 : Go.Ev.Rest cxE 15 nm_fn nm_c0 nm_r0 nm_s0 (.bool true) := rest_piece cokE nm_p0 rfl nm_t1
theorem nm_calls (w : World) : Calls Try.prog 15 #[] w fun e w' => e = .returned (.bool true) ∧ Below w.heap.size w w' := rest_call cokE nm_hf nm_hc nm_hp nm_t0 w
end Go.Proofs.Ytfiacjdkdjkiiaa
