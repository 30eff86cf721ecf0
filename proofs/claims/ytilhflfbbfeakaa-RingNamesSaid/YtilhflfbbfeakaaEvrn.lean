/- A closed call in pieces, put together. -/
import Derived.Test.YtilhflfbbfeakaaEvrn0
import Derived.Test.YtilhflfbbfeakaaEvaw
namespace Go.Proofs.Ytilhflfbbfeakaa
open Go Go.Ev Go.RowKit
set_option maxRecDepth 100000
theorem rn_cok : COk rn_cx := cok_known cokE rfl aw_calls
theorem rn_hf : rn_cx.P.funcs[14]? = some rn_fn := by kernel_rfl
theorem rn_hc : rn_fn.body = some rn_c0 := by kernel_rfl
theorem rn_hp : (rn_cx.pl.get 14).isSome = true := by kernel_rfl
theorem rn_t0 : Go.Ev.Rest rn_cx 14 rn_fn rn_c0 rn_r0 rn_s0 (.bool true) := rest_last rn_cok rn_p0 rfl
theorem rn_calls (w : World) : Calls Try.prog 14 #[] w fun e w' => e = .returned (.bool true) ∧ Below w.heap.size w w' := rest_call rn_cok rn_hf rn_hc rn_hp rn_t0 w
end Go.Proofs.Ytilhflfbbfeakaa
