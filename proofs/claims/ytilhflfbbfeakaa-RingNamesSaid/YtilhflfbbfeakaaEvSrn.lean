/- A closed call in pieces: what is between them. -/
import Derived.Test.YtilhflfbbfeakaaEvA
import Derived.Test.YtilhflfbbfeakaaEvG
namespace Go.Proofs.Ytilhflfbbfeakaa
open Go Go.Ev Go.RowKit
set_option maxRecDepth 100000
noncomputable section
abbrev rn_cx : Cx := ⟨Try.prog, tdE, mpE, plE, Tre.ins (some (.bool true)) .e 17⟩
def rn_fn : Func := (Try.prog.funcs[14]?).getD default
def rn_c0 : Code := rn_fn.body.getD default
def rn_r0 : Fr := ⟨.e, []⟩
def rn_s0 : St := ⟨.e, 0, []⟩
end
end Go.Proofs.Ytilhflfbbfeakaa
