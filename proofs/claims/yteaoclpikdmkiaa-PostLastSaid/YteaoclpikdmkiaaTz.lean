/- Compares of truth values. -/
import Derived.Test.YteaoclpikdmkiaaTy
import Derived.Laws.Small
namespace Go.Tl
open Go Go.RowKit
set_option linter.unusedVariables false
theorem pv_neqb {P : Program} {o : Oper} {s : Slots} {t t' : TypeId} {x z : Operand} {a b : Bool} (ho : o.op = .binOp .neq t x z t') (hx : evA s x = some (.v (.bool a))) (hz : evA s z = some (.v (.bool b))) (hu : P.underlying t = some .bool) : PV P o s (.v (.bool (a != b))) :=
  pv_bin ho hx hz (fun w => by
    have h := run_equal_bool (P := P) (w := w) t a b hu
    simp [eqGuard, binOp, h, bne])
open Go.Proofs.Yteaoclpikdmkiaa (PT)
theorem awe_sk3 {P : Program} {N : Nat} {ops : Array Oper} {o : Oper} {s : Slots} {h : List Ent} {Q : Exit → Slots → List Ent → Prop} {r : PT} {i d : Nat} (ho : ops[i]? = some o) (hw : Wf ops o s) (hd : o.dst = some d) (hN : Nat.blt d N = true) (K : AWE P N ops r Q ((d, .v undef) :: s) h) : AWE P N ops (.op i 3 r) Q s h := fun B SS w S a hs => by
  refine wpOX_of_if ho ?_
  rw [if_neg (by rw [hw.unwanted hs.slots]; simp), hd]
  exact K B SS w S _ (hs.put (.v _) (blt_lt hN))
end Go.Tl
