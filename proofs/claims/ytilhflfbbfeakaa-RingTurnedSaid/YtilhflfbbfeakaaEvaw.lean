/- A closed call in pieces, put together. -/
import Derived.Test.YtilhflfbbfeakaaEvaw0
import Derived.Test.YtilhflfbbfeakaaEvaw1
import Derived.Test.YtilhflfbbfeakaaEvaw2
import Derived.Test.YtilhflfbbfeakaaEvaw3
namespace Go.Proofs.Ytilhflfbbfeakaa
open Go Go.Ev Go.RowKit
set_option maxRecDepth 100000
theorem aw_hf : cxE.P.funcs[17]? = some aw_fn := by kernel_rfl
theorem aw_hc : aw_fn.body = some aw_c0 := by kernel_rfl
theorem aw_hp : (cxE.pl.get 17).isSome = true := by kernel_rfl
theorem aw_t3 : Go.Ev.Rest cxE 17 aw_fn aw_c3 aw_r3 aw_s3 (.bool true) := rest_last cokE aw_p3 rfl
theorem aw_t2 : Go.Ev.Rest cxE 17 aw_fn aw_c2 aw_r2 aw_s2 (.bool true) := rest_piece cokE aw_p2 rfl aw_t3
theorem aw_t1 : Go.Ev.Rest cxE 17 aw_fn aw_c1 aw_r1 aw_s1 (.bool true) := rest_piece cokE aw_p1 rfl aw_t2
theorem aw_t0 : Go.Ev.Rest cxE 17 aw_fn aw_c0 aw_r0 aw_s0 (.bool true) := rest_piece cokE aw_p0 rfl aw_t1
theorem aw_calls (w : World) : Calls Try.prog 17 #[] w fun e w' => e = .returned (.bool true) ∧ Below w.heap.size w w' := rest_call cokE aw_hf aw_hc aw_hp aw_t0 w
end Go.Proofs.Ytilhflfbbfeakaa
