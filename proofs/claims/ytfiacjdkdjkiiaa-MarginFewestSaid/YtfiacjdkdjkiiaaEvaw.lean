/- A closed call in pieces, put together. -/
import Derived.Test.YtfiacjdkdjkiiaaEvaw0
import Derived.Test.YtfiacjdkdjkiiaaEvaw1
namespace Go.Proofs.Ytfiacjdkdjkiiaa
open Go Go.Ev Go.RowKit
set_option maxRecDepth 100000
theorem aw_hf : aw_cx.P.funcs[18]? = some aw_fn := by kernel_rfl
theorem aw_hc : aw_fn.body = some aw_c0 := by kernel_rfl
theorem aw_hp : (aw_cx.pl.get 18).isSome = true := by kernel_rfl
theorem aw_t1 : Go.Ev.Rest aw_cx 18 aw_fn aw_c1 aw_r1 aw_s1 (.bool true) := rest_last cokE aw_p1 rfl
theorem aw_t0 : Go.Ev.Rest aw_cx 18 aw_fn aw_c0 aw_r0 aw_s0 (.bool true) := rest_piece cokE aw_p0 rfl aw_t1
theorem aw_calls (w : World) : Calls Try.prog 18 #[] w fun e w' => e = .returned (.bool true) ∧ Below w.heap.size w w' := rest_call cokE aw_hf aw_hc aw_hp aw_t0 w
end Go.Proofs.Ytfiacjdkdjkiiaa
