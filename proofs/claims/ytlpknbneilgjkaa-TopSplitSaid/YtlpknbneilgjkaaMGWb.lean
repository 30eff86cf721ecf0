/- Joined texts: W2, W8, W9, Ve. -/
import Derived.Deep.AppendLies
import Derived.Laws.AppendOwnNone
import Derived.Laws.StructEq
import Derived.ChangeKeysEq
import Derived.Test.YtlpknbneilgjkaaMGWa
import Derived.Test.YtlpknbneilgjkaaMGBs
import Derived.Test.YtlpknbneilgjkaaTt
import Derived.Test.YtlpknbneilgjkaaGOb
import Derived.Test.YtlpknbneilgjkaaGPa
import Derived.Test.YtlpknbneilgjkaaGTs
import Derived.Test.YtlpknbneilgjkaaGTy
section
namespace Go.Proofs.Ytlpknbneilgjkaa.M
open Go.RowKit
set_option linter.unusedVariables false

end Go.Proofs.Ytlpknbneilgjkaa.M
end
section
namespace Go.Proofs.Ytlpknbneilgjkaa.M
open Go.RowKit
set_option linter.unusedVariables false

theorem Try.info3 : (Try.prog.info? 3).map (fun i => (i.zero, i.size, i.bytes)) = some (some (.int .i64 0), 1, 8) := by kernel_rfl

end Go.Proofs.Ytlpknbneilgjkaa.M
end
section
namespace Go.Proofs.Ytlpknbneilgjkaa.M
open Go.RowKit
set_option linter.unusedVariables false

def pad4 (p : List Int) : List Int := [p.getD 0 0, p.getD 1 0, p.getD 2 0, p.getD 3 0]
def arr4 (p : List Int) : Array Value := #[.int .i64 (p.getD 0 0), .int .i64 (p.getD 1 0), .int .i64 (p.getD 2 0), .int .i64 (p.getD 3 0)]
theorem dot_pad (xs p : List Int) (h : xs.length = p.length) (h4 : p.length ≤ 4) : dot xs (pad4 p) = dot xs p := by
  match xs, p, h, h4 with
  | [], [], _, _ => rfl
  | [a], [p], _, _ => rfl
  | [a, b], [p, q], _, _ => rfl
  | [a, b, c], [p, q, r], _, _ => rfl
  | [a, b, c, d], [p, q, r, s], _, _ => rfl
  | _ :: _ :: _ :: _ :: _ :: _, _ :: _ :: _ :: _ :: _ :: _, _, h4 => simp at h4
end Go.Proofs.Ytlpknbneilgjkaa.M
end
section
namespace Go.Proofs.Ytlpknbneilgjkaa.M
open Go.RowKit
set_option linter.unusedVariables false
set_option linter.unusedSimpArgs false
theorem key_ok (e : Bool) (a b : Int) (w : World) : (Instr.checkKey e 10000 160 (.agg #[.int .i64 a, .int .i64 b])).run Try.prog w = .ok () w := by kernel_rfl
theorem zero_st (w : World) : (zeroValue 157).run Try.prog w = .ok (.agg #[.int .i64 0, .int .i64 0, .int .i64 0]) w := by kernel_rfl
theorem eq_spot (a b c d : Int) (w : World) : (Op.equal 160 (.agg #[.int .i64 a, .int .i64 b]) (.agg #[.int .i64 c, .int .i64 d])).run Try.prog w = .ok (a == c && b == d) w := by
  have h1 : Try.prog.stoodInHeld 160 = false := by kernel_rfl
  have h2 : Try.prog.underlying 160 = some (.struct (Try.prog.fieldsOf 160)) := by kernel_rfl
  have hfo : (Try.prog.fieldsOf 160).toList = (match Try.prog.underlying 160 with | some (.struct fs) => fs.toList | _ => []) := by kernel_rfl
  unfold Op.equal Op.maxDepth
  rw [run_equalIn_struct w 9999 160 _ _ h2 h1, hfo, Try.underlying160]
  have p1 : ∀ (x y : Value) (w : World), (part 3 #[x, y] 0).run Try.prog w = .ok x w := fun x y w => by kernel_rfl
  have p2 : ∀ (x y : Value) (w : World), (part 3 #[x, y] 1).run Try.prog w = .ok y w := fun x y w => by kernel_rfl
  have q : ∀ (a b : Int) (w : World), (Op.equalIn 9999 3 (.int .i64 a) (.int .i64 b)).run Try.prog w = .ok (a == b) w := fun a b w => run_equalIn_int w 9998 3 .i64 .i64 a b Try.underlying3
  cases h1 : (a == c) <;> cases h2 : (b == d) <;> simp [Op.eqFields, p1, p2, q, h1, h2]
theorem neq_arr (p q : List Int) (w : World) : (binOp .neq 220 (.agg (arr4 p)) (.agg (arr4 q))).run Try.prog w = .ok (.bool (!decide (pad4 p = pad4 q))) w := by
  obtain ⟨i0, hi, hz0, hz1, hz2⟩ := info_parts Try.info3
  have p0 : ∀ (a b c d : Value) (w : World), (part 3 #[a, b, c, d] (0 * Try.prog.cellsOf 3)).run Try.prog w = .ok a w := fun a b c d w => by kernel_rfl
  have p1 : ∀ (a b c d : Value) (w : World), (part 3 #[a, b, c, d] (1 * Try.prog.cellsOf 3)).run Try.prog w = .ok b w := fun a b c d w => by kernel_rfl
  have p2 : ∀ (a b c d : Value) (w : World), (part 3 #[a, b, c, d] (2 * Try.prog.cellsOf 3)).run Try.prog w = .ok c w := fun a b c d w => by kernel_rfl
  have p3 : ∀ (a b c d : Value) (w : World), (part 3 #[a, b, c, d] (3 * Try.prog.cellsOf 3)).run Try.prog w = .ok d w := fun a b c d w => by kernel_rfl
  have e : ∀ (a b : Int) (w : World), (Op.equalIn 9999 3 (.int .i64 a) (.int .i64 b)).run Try.prog w = .ok (a == b) w := fun a b w => run_equalIn_int w 9998 3 .i64 .i64 a b Try.underlying3
  have hr : List.range 4 = [0, 1, 2, 3] := by decide
  have h : (Op.equalIn 10000 220 (.agg (arr4 p)) (.agg (arr4 q))).run Try.prog w = .ok (decide (pad4 p = pad4 q)) w := by
    rw [run_equalIn_array w 9999 (arr4 p) (arr4 q) Try.underlying220 hi, hr]
    unfold arr4 pad4
    generalize p.getD 0 0 = a0
    generalize p.getD 1 0 = a1
    generalize p.getD 2 0 = a2
    generalize p.getD 3 0 = a3
    generalize q.getD 0 0 = b0
    generalize q.getD 1 0 = b1
    generalize q.getD 2 0 = b2
    generalize q.getD 3 0 = b3
    simp only [Op.eqItems, Sem.run_bind, p0, p1, p2, p3, e, Result.andThen_ok, Sem.run_ite, Sem.run_pure]
    by_cases h0 : a0 = b0 <;> by_cases h1 : a1 = b1 <;> by_cases h2 : a2 = b2 <;> by_cases h3 : a3 = b3 <;> simp [h0, h1, h2, h3]
  simp only [binOp]
  simp [Op.equal, Op.maxDepth, h]
end Go.Proofs.Ytlpknbneilgjkaa.M
end
