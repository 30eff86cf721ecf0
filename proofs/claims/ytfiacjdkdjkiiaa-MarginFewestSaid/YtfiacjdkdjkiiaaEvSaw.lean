/- A closed call in pieces: what is between them. -/
import Derived.Test.YtfiacjdkdjkiiaaEvA
import Derived.Test.YtfiacjdkdjkiiaaEvG
namespace Go.Proofs.Ytfiacjdkdjkiiaa
open Go Go.Ev Go.RowKit
set_option maxRecDepth 100000
noncomputable section
abbrev aw_cx : Cx := ⟨Try.prog, tdE, mpE, plE, .e⟩
def aw_fn : Func := (Try.prog.funcs[18]?).getD default
def aw_c0 : Code := aw_fn.body.getD default
def aw_r0 : Fr := ⟨.e, []⟩
def aw_s0 : St := ⟨.e, 0, []⟩
def aw_c1 : Code := seqDrop 4 aw_c0
def aw_r1 : Fr := ⟨(.n (.n (.n (.n .e (some (.slice (some ⟨626, 0, none⟩) 2 1)) .e) (some (.int .i64 0)) .e) (some (.slice (some ⟨128, 0, none⟩) 2 1)) (.n .e (some (.slice (some ⟨313, 0, none⟩) 2 1)) .e)) (some (.bool false)) (.n (.n (.n .e (some (.int .i64 0)) .e) (some (.slice (some ⟨228, 0, none⟩) 2 1)) .e) (some (.slice (some ⟨130, 0, none⟩) 2 1)) (.n .e (some (.int .i64 0)) .e))), []⟩
def aw_s1 : St := ⟨(.n (.n (.n (.n (.n (.n .e none (.n .e (some (.cl 3 1 false [.int .i64 10010, .int .i64 10000])) .e)) none .e) none .e) none .e) none (.n (.n (.n (.n .e none (.n .e (some (.cl 3 1 false [.int .i64 0, .int .i64 30])) .e)) none .e) none (.n .e none (.n .e none (.n (.n (.n .e (some (.cl 82 2 false [.int .i64 0, .int .i64 10, .int .i64 0, .int .i64 1364])) .e) none .e) none .e)))) none .e)) none (.n (.n (.n (.n (.n (.n (.n .e (some (.cl 27 1 false [.slice (some ⟨95, 0, none⟩) 2 1, .slice (some ⟨124, 0, none⟩) 2 1])) .e) none .e) none .e) none .e) none .e) none (.n (.n (.n .e none (.n .e none (.n .e (some (.cl 82 2 false [.int .i64 10000, .int .i64 10010, .int .i64 8666, .int .i64 10030])) .e))) none .e) none (.n .e none (.n .e none (.n .e (some (.cl 3 1 false [.int .i64 3003, .int .i64 3009])) .e))))) none (.n (.n (.n (.n (.n (.n .e (some (.cl 27 1 false [.slice (some ⟨97, 0, none⟩) 2 1, .slice (some ⟨126, 0, none⟩) 2 1])) .e) none .e) none .e) none (.n .e none (.n .e none (.n (.n (.n .e (some (.cl 82 2 false [.int .i64 0, .int .i64 10, .int .i64 0, .int .i64 1707])) .e) none .e) none .e)))) none .e) none (.n .e none (.n .e none (.n .e none (.n .e (some (.cl 3 1 false [.int .i64 0, .int .i64 0])) .e))))))), 627, []⟩
end
end Go.Proofs.Ytfiacjdkdjkiiaa
