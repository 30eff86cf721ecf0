/- A bank that came in. -/
import Derived.Test.YtlpknbneilgjkaaMGCo
import Derived.WalkKit
import Derived.ProofKit
import Derived.OpenShut
import Derived.WideKeyArgs
namespace Go.Proofs.Ytlpknbneilgjkaa.M
open Go Go.ChangeShapes Go.WideShapes Go.ChangeAt Go.RowKit Go.Tl
set_option linter.unusedVariables false
theorem cells3 : Try.prog.cellsOf 3 = 1 := by kernel_rfl
theorem cells22 : Try.prog.cellsOf 22 = 1 := by kernel_rfl
theorem cells23 : Try.prog.cellsOf 23 = 1 := by kernel_rfl
theorem cells25 : Try.prog.cellsOf 25 = 3 := by kernel_rfl
theorem cells38 : Try.prog.cellsOf 38 = 3 := by kernel_rfl
theorem cells41 : Try.prog.cellsOf 41 = 3 := by kernel_rfl
theorem cells36 : Try.prog.cellsOf 36 = 1 := by kernel_rfl
theorem cells35 : Try.prog.cellsOf 35 = 2 := by kernel_rfl
theorem cells29 : Try.prog.cellsOf 29 = 1 := by kernel_rfl
section
variable {H : Type} {enc : TypeId × Value → H} {w : World} {base : Nat} {spare : Nat → Bool} {held : Bool}
set_option maxRecDepth 100000 in
theorem open_bank {fuel : Nat} {cs : List Value} {x : DataW H × List MemPlace} (h : DataW.trod enc Try.prog w base spare held fuel 25 cs = some x) :
    ∃ (b : BankD) (da : Option Addr) (dc : Nat) (la : Option Addr) (lc : Nat), cs = [.int .i64 b.stocks, .slice da b.days.length dc, .slice la b.loans.length lc] ∧ b.days.length ≤ maxLen ∧ b.loans.length ≤ maxLen ∧ BankAt w da la b := by
  obtain ⟨y0, y1, y2, n, hl, k0, k1, k2⟩ := trod_struct3 Try.underlying25 h
  rw [cells25] at hl
  match cs, hl with
  | [u, v, z], _ =>
    rw [cells3] at k0
    rw [cells22] at k1
    rw [cells23] at k2
    obtain ⟨st, e0, _, _⟩ := DataW.trod_int Try.underlying3 k0
    obtain ⟨da, dc, ds, e1, hd, hD⟩ := open_days Try.underlying22 cells38 Try.underlying38 ⟨rfl, rfl, cells36⟩ ⟨rfl, rfl, cells35⟩ Try.underlying36 Try.underlying35 ⟨rfl, rfl⟩ ⟨rfl, rfl⟩ Try.underlying3 cells3 k1
    obtain ⟨la, lc, ls, e2, hl, hL⟩ := open_loans Try.underlying23 cells41 Try.underlying41 ⟨rfl, rfl⟩ ⟨rfl, rfl⟩ ⟨rfl, rfl, cells29⟩ Try.underlying29 Try.underlying3 cells3 k2
    simp only [List.drop_zero, List.take_succ_cons, List.take_zero, List.cons.injEq, and_true] at e0
    simp only [List.drop_succ_cons, List.drop_zero, List.take_succ_cons, List.take_zero, List.cons.injEq, and_true] at e1
    simp only [List.drop_succ_cons, List.drop_zero, List.take_succ_cons, List.take_nil, List.cons.injEq, and_true] at e2
    exact ⟨⟨st, ds, ls⟩, da, dc, la, lc, by rw [e0, e1, e2], hd, hl, hD, hL⟩
end
end Go.Proofs.Ytlpknbneilgjkaa.M
