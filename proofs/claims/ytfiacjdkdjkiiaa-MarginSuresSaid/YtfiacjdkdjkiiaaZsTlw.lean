/- Rules of GTx that no text needs yet. -/
import Derived.Test.YtfiacjdkdjkiiaaGTx
section
namespace Go.Tl
open Go Go.RowKit
set_option linter.unusedVariables false
set_option linter.unusedSimpArgs false
section
variable {P : Program} {o : Oper} {s : Slots} {h : List Ent}
section
variable {t t' : TypeId} {x z : Operand} {k : IntKind} {a b c : Int}
theorem pv_leq (ho : o.op = .binOp .leq t x z t') (hx : evA s x = some (.v (.int k a))) (hz : evA s z = some (.v (.int k b))) : PV P o s (.v (.bool (decide (a ≤ b)))) :=
  pv_bin ho hx hz (fun w => by simp [go_sem])
end
theorem pv_min2 {x y : Operand} {t1 t2 : TypeId} {k : IntKind} {a b : Int} (ho : o.op = .call { callee := .builtin .min, args := #[x, y], argTypes := #[t1, t2] }) (hx : evA s x = some (.v (.int k a))) (hy : evA s y = some (.v (.int k b))) :
    PV P o s (.v (.int k (min a b))) := fun w S a' hs =>
  ⟨_, fun w' => by
    have e : (if b < a then b else a) = min a b := by rw [Int.min_def]; split <;> split <;> omega
    simp [execOp, ho, resolve, invoke, builtin, Builtin.min_, Builtin.min2, hs.lit hx, hs.lit hy, e], .v _⟩
end
end Go.Tl
end
section
namespace Go.Proofs.Ytfiacjdkdjkiiaa
open Go
set_option linter.unusedVariables false
set_option linter.unusedSectionVars false
section
variable {md : Region.Mode} {ops : Array Oper}
section
variable {listed : Array Bool} {L : Nat} (hL : BitsL ops.size listed L) (hlow : Low ops.size L)
include hL hlow
end
end
end Go.Proofs.Ytfiacjdkdjkiiaa
namespace Go.Tl
open Go Go.RowKit
open Go.Proofs.Ytfiacjdkdjkiiaa (PT treeN tree_of)
set_option linter.unusedVariables false
end Go.Tl
end
section
namespace Go.Tl
open Go Go.RowKit
open Go.Proofs.Ytfiacjdkdjkiiaa (PT ptOk treeB kindOf isPre Closed isPre_listed getD_tf)
set_option linter.unusedVariables false
section
variable {P : Program} {ops : Array Oper} {Q : Exit → Act → World → Prop} {ro : Option Nat}
variable {md : Region.Mode} {S : World → Prop}
end
end Go.Tl
namespace Go.Tl
open Go Go.RowKit
set_option linter.unusedVariables false
section
variable {w w' : World} {S S' : Nat → Prop}
end
end Go.Tl
namespace Go.Tl
open Go Go.RowKit
set_option linter.unusedVariables false
section
variable {B : Base} {N : Nat} {w : World} {S : Nat → Prop} {s : Slots} {h : List Ent} {a : Act}
end
section
variable {P : Program}
section
variable (T : TT P)
end
end
end Go.Tl
namespace Go.Tl
open Go Go.RowKit
set_option linter.unusedVariables false
set_option linter.unusedSimpArgs false
section
variable {P : Program} {o : Oper} {s : Slots} {h : List Ent}
section
variable {t t' : TypeId} {x z : Operand} {k : IntKind} {a b c : Int}
end
end
end Go.Tl
namespace Go.Tl
open Go Go.RowKit
set_option linter.unusedVariables false
set_option linter.unusedSimpArgs false
section
variable {P : Program} {N : Nat} {ro : Option Nat} {o : Oper} {md : Nat → Prop} {s : Slots} {h : List Ent} {K : Slots → List Ent → Prop} {Q : Exit → Slots → List Ent → Prop}
end
end Go.Tl
namespace Go.Tl
open Go Go.RowKit
set_option linter.unusedVariables false
set_option linter.unusedSimpArgs false
section
variable {P : Program} {N : Nat} {o : Oper} {md : Nat → Prop} {s : Slots} {h : List Ent} {K : Slots → List Ent → Prop}
end
end Go.Tl
namespace Go.Tl
open Go Go.RowKit
set_option linter.unusedVariables false
set_option linter.unusedSimpArgs false
section
variable {B : Base} {N : Nat} {w : World} {S : Nat → Prop} {s : Slots} {h h1 : List Ent} {a : Act}
end
section
variable {P : Program} {N : Nat} {o : Oper} {md : Nat → Prop} {s : Slots} {h h1 : List Ent} {K : Slots → List Ent → Prop}
end
end Go.Tl
namespace Go.Tl
open Go Go.RowKit
set_option linter.unusedVariables false
set_option linter.unusedSimpArgs false
section
variable {P : Program} {N : Nat} {o : Oper} {md : Nat → Prop} {s : Slots} {h h1 : List Ent} {K : Slots → List Ent → Prop}
end
end Go.Tl
namespace Go.Tl
open Go Go.RowKit
set_option linter.unusedVariables false
set_option linter.unusedSimpArgs false
section
variable {P : Program} {N : Nat} {o : Oper} {md : Nat → Prop} {s : Slots} {h h1 : List Ent} {K : Slots → List Ent → Prop}
end
end Go.Tl
namespace Go.Tl
open Go Go.RowKit
set_option linter.unusedVariables false
section
variable {P : Program} {N : Nat} {ro : Option Nat} {o : Oper} {s : Slots} {h : List Ent} {Q : Exit → Slots → List Ent → Prop} {ops : Array Oper} {rest : List Oper}
variable {K : Slots → List Ent → Prop} {id i : Nat} {I : Nat → Slots → List Ent → Prop} {n : Nat}
end
section
variable {P : Program} {N : Nat} {o : Oper} {s : Slots} {h : List Ent}
end
end Go.Tl
namespace Go.Tl
open Go Go.RowKit
open Go.Proofs.Ytfiacjdkdjkiiaa (PT treeB)
set_option linter.unusedVariables false
section
variable {P : Program} {N : Nat} {ops : Array Oper} {so s : Slots} {ks h : List Ent} {Q : Exit → Slots → List Ent → Prop} {r : PT} {i d : Nat} {o : Oper}
end
end Go.Tl
namespace Go.Tl
open Go Go.RowKit
set_option linter.unusedVariables false
section
variable {P : Program} {N : Nat} {o : Oper} {md : Nat → Prop} {s : Slots} {h h1 : List Ent} {K : Slots → List Ent → Prop}
end
end Go.Tl
namespace Go.Tl
open Go Go.RowKit
set_option linter.unusedVariables false
set_option linter.unusedSimpArgs false
section
variable {P : Program} {mt : TypeId} {n : Nat}
variable {N : Nat} {o : Oper} {md : Nat → Prop} {s : Slots} {h : List Ent} {K : Slots → List Ent → Prop}
end
end Go.Tl
namespace Go.Tl
open Go Go.RowKit
set_option linter.unusedVariables false
set_option linter.unusedSimpArgs false
section
variable {P : Program} {N : Nat} {o : Oper} {s : Slots}
variable {md : Nat → Prop} {h : List Ent} {K : Slots → List Ent → Prop}
end
end Go.Tl
namespace Go.Tl
open Go Go.RowKit
set_option linter.unusedVariables false
section
variable {P : Program} {N : Nat} {ro : Option Nat} {o : Oper} {s : Slots} {h : List Ent} {Q : Exit → Slots → List Ent → Prop} {ops : Array Oper} {rest : List Oper}
variable {mt : TypeId} {n : Nat} {md : Nat → Prop} {K : Slots → List Ent → Prop}
end
end Go.Tl
namespace Go.Tl
open Go Go.RowKit
section
variable {P : Program} {N : Nat} {o : Oper} {s : Slots} {h h1 : List Ent} {K : Slots → List Ent → Prop} {mt n : Nat}
end
end Go.Tl
namespace Go.Tl
open Go Go.RowKit
set_option linter.unusedVariables false
set_option linter.unusedSimpArgs false
section
variable {P : Program} {N : Nat} {o : Oper} {md : Nat → Prop} {s : Slots} {h : List Ent} {K : Slots → List Ent → Prop}
end
end Go.Tl
end
section
namespace Go.Tl
open Go Go.RowKit
end Go.Tl
namespace Go.Tl
open Go Go.RowKit
end Go.Tl
end
