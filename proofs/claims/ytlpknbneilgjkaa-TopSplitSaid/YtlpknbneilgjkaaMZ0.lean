/- The law TopSplit: ranges compared; banks at their contracts. -/
import Derived.Test.YtlpknbneilgjkaaPS
import Derived.Test.YtlpknbneilgjkaaMX
import Derived.Test.YtlpknbneilgjkaaMPo
import Derived.Test.YtlpknbneilgjkaaMW
namespace Go.Proofs.Ytlpknbneilgjkaa.M
open Go Go.RowKit Go.Tl
set_option linter.unusedVariables false
set_option linter.unusedSimpArgs false
theorem eq_rng77 (a b a' b' : Int) (w : World) : (Op.equal 77 (.agg #[.int .i64 a, .int .i64 b]) (.agg #[.int .i64 a', .int .i64 b'])).run Try.prog w = .ok (a == a' && b == b') w := by
  have h1 : Try.prog.stoodInHeld 77 = false := by kernel_rfl
  have h2 : Try.prog.underlying 77 = some (.struct (Try.prog.fieldsOf 77)) := by kernel_rfl
  have hfo : (Try.prog.fieldsOf 77).toList = (match Try.prog.underlying 77 with | some (.struct fs) => fs.toList | _ => []) := by kernel_rfl
  have q : ∀ (a b : Int) (w : World), (Op.equalIn 9999 3 (.int .i64 a) (.int .i64 b)).run Try.prog w = .ok (a == b) w := fun a b w => run_equalIn_int w 9998 3 .i64 .i64 a b Try.underlying3
  have p0 : ∀ (x y : Value) (w : World), (part 3 #[x, y] 0).run Try.prog w = .ok x w := fun x y w => by kernel_rfl
  have p1 : ∀ (x y : Value) (w : World), (part 3 #[x, y] 1).run Try.prog w = .ok y w := fun x y w => by kernel_rfl
  unfold Op.equal Op.maxDepth
  rw [run_equalIn_struct w 9999 77 _ _ h2 h1, hfo, Try.underlying77]
  cases h1 : (a == a') <;> cases h2 : (b == b') <;> simp [Op.eqFields, p0, p1, q, h1, h2]
theorem rng_inv77 {w : World} {S : Nat → Prop} {a b : Int} {v : Value} (h : VRel w S (.ag [intA a, intA b]) v) : v = .agg #[.int .i64 a, .int .i64 b] := by
  obtain ⟨vs, rfl, hv⟩ := ag_inv h
  obtain ⟨v1, us, rfl, k1, hv⟩ := rels1 hv
  obtain ⟨v2, us, rfl, k2, hv⟩ := rels1 hv
  obtain rfl := rels0 hv
  rw [k1.lit_inv, k2.lit_inv]
theorem pv_neq_rng {o : Oper} {sl : Slots} {t' : TypeId} {x z : Operand} {a b a' b' : Int} (ho : o.op = .binOp .neq 77 x z t') (hx : evA sl x = some (.ag [intA a, intA b])) (hz : evA sl z = some (.ag [intA a', intA b'])) (h : a = a' ∧ b = b') : PV Try.prog o sl (boolA false) := fun w S act hs => by
  obtain ⟨rfl, rfl⟩ := h
  have h1 := rng_inv77 (hs.eval hx)
  have h2 := rng_inv77 (hs.eval hz)
  refine ⟨.bool false, fun w' => ?_, .v _⟩
  have h3 := eq_rng77 a b a b w'
  simp [execOp, ho, h1, h2, eqGuard, binOp, h3]
/-- a bank made anew, its stocks given -/
abbrev bank2 (st : Int) (b : BankD) : AV := .ag [intA st, .t (.sl true 3 b.days.length (fun k => dayL1 (b.days.getD k default))), .t (.sl true 3 b.loans.length (fun k => loanL1 (b.loans.getD k default)))]
theorem bank2_le (cp : Bool) {st : Int} {b : BankD} (h : b.stocks = st) : AVLe (bank2 st b) (bankA cp b) := by
  subst h
  exact bank1_le cp b
theorem arg1 {P : Program} {f : Nat} {a a' : AV} {hc : List Ent} {Q : AV → List Ent → Prop} (C : ACall P f [a'] hc Q) (H : AVLe a a') : ACall P f [a] hc Q := acall_args C (.cons H .nil)
end Go.Proofs.Ytlpknbneilgjkaa.M
