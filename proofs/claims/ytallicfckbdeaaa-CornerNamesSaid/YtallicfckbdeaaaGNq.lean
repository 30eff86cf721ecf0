/- Joined texts: Nqc, Rg. -/
import Derived.Test.YtallicfckbdeaaaGPa
import Derived.Test.YtallicfckbdeaaaCa
import Derived.Test.YtallicfckbdeaaaGTy
import Derived.ChangeKeysEq
section
namespace Go.Proofs.Ytallicfckbdeaaa
open Go Go.RowKit Go.Tl
set_option linter.unusedVariables false
set_option linter.unusedSimpArgs false
def eq6 (d e : Nat → Int) : Bool := d 0 == e 0 && (d 1 == e 1 && (d 2 == e 2 && (d 3 == e 3 && (d 4 == e 4 && d 5 == e 5))))
theorem eq6_iff {d e : Nat → Int} : eq6 d e = true ↔ ∀ q, q < 6 → d q = e q := by
  unfold eq6
  simp only [Bool.and_eq_true, beq_iff_eq]
  constructor
  · rintro ⟨h0, h1, h2, h3, h4, h5⟩ q hq
    match q, hq with
    | 0, _ => exact h0
    | 1, _ => exact h1
    | 2, _ => exact h2
    | 3, _ => exact h3
    | 4, _ => exact h4
    | 5, _ => exact h5
  · intro h
    exact ⟨h 0 (by omega), h 1 (by omega), h 2 (by omega), h 3 (by omega), h 4 (by omega), h 5 (by omega)⟩
theorem eq_arr (a0 a1 a2 a3 a4 a5 b0 b1 b2 b3 b4 b5 : Int) (w : World) :
    (Op.equal 127 (.agg #[.int .i64 a0, .int .i64 a1, .int .i64 a2, .int .i64 a3, .int .i64 a4, .int .i64 a5]) (.agg #[.int .i64 b0, .int .i64 b1, .int .i64 b2, .int .i64 b3, .int .i64 b4, .int .i64 b5])).run Try.prog w = .ok (a0 == b0 && (a1 == b1 && (a2 == b2 && (a3 == b3 && (a4 == b4 && a5 == b5))))) w := by
  have h1 : Try.prog.cellsOf 3 = 1 := by kernel_rfl
  obtain ⟨i, hi⟩ : ∃ i, Try.prog.info? 3 = some i := Option.isSome_iff_exists.1 (by kernel_rfl)
  unfold Op.equal Op.maxDepth
  rw [run_equalIn_array (w := w) 9999 _ _ Try.underlying127 hi, h1]
  have hr : List.range 6 = [0, 1, 2, 3, 4, 5] := rfl
  rw [hr]
  have p0 : ∀ (x0 x1 x2 x3 x4 x5 : Value) (w : World), (part 3 #[x0, x1, x2, x3, x4, x5] (0 * 1)).run Try.prog w = .ok x0 w := fun _ _ _ _ _ _ w => by kernel_rfl
  have p1 : ∀ (x0 x1 x2 x3 x4 x5 : Value) (w : World), (part 3 #[x0, x1, x2, x3, x4, x5] (1 * 1)).run Try.prog w = .ok x1 w := fun _ _ _ _ _ _ w => by kernel_rfl
  have p2 : ∀ (x0 x1 x2 x3 x4 x5 : Value) (w : World), (part 3 #[x0, x1, x2, x3, x4, x5] (2 * 1)).run Try.prog w = .ok x2 w := fun _ _ _ _ _ _ w => by kernel_rfl
  have p3 : ∀ (x0 x1 x2 x3 x4 x5 : Value) (w : World), (part 3 #[x0, x1, x2, x3, x4, x5] (3 * 1)).run Try.prog w = .ok x3 w := fun _ _ _ _ _ _ w => by kernel_rfl
  have p4 : ∀ (x0 x1 x2 x3 x4 x5 : Value) (w : World), (part 3 #[x0, x1, x2, x3, x4, x5] (4 * 1)).run Try.prog w = .ok x4 w := fun _ _ _ _ _ _ w => by kernel_rfl
  have p5 : ∀ (x0 x1 x2 x3 x4 x5 : Value) (w : World), (part 3 #[x0, x1, x2, x3, x4, x5] (5 * 1)).run Try.prog w = .ok x5 w := fun _ _ _ _ _ _ w => by kernel_rfl
  have q : ∀ (a b : Int) (w : World), (Op.equalIn 9999 3 (.int .i64 a) (.int .i64 b)).run Try.prog w = .ok (a == b) w := fun a b w => run_equalIn_int w 9998 3 .i64 .i64 a b Try.underlying3
  have st : ∀ (xs ys : Array Value) (j : Nat) (js : List Nat) (x y : Int) (r : Bool), (∀ w, (part 3 xs (j * 1)).run Try.prog w = .ok (.int .i64 x) w) → (∀ w, (part 3 ys (j * 1)).run Try.prog w = .ok (.int .i64 y) w) → (Op.eqItems 9999 3 1 xs ys js).run Try.prog w = .ok r w → (Op.eqItems 9999 3 1 xs ys (j :: js)).run Try.prog w = .ok (x == y && r) w := fun xs ys j js x y r h1 h2 h3 => by
    simp only [Op.eqItems, Sem.run_bind, h1, h2, q, Result.andThen_ok]
    cases h : x == y
    · simp
    · simpa using h3
  have hn : ∀ xs ys : Array Value, (Op.eqItems 9999 3 1 xs ys []).run Try.prog w = .ok true w := fun xs ys => by simp [Op.eqItems]
  have := st #[.int .i64 a0, .int .i64 a1, .int .i64 a2, .int .i64 a3, .int .i64 a4, .int .i64 a5] #[.int .i64 b0, .int .i64 b1, .int .i64 b2, .int .i64 b3, .int .i64 b4, .int .i64 b5] 0 [1, 2, 3, 4, 5] a0 b0 _ (p0 _ _ _ _ _ _) (p0 _ _ _ _ _ _)
    (st _ _ 1 [2, 3, 4, 5] a1 b1 _ (p1 _ _ _ _ _ _) (p1 _ _ _ _ _ _) (st _ _ 2 [3, 4, 5] a2 b2 _ (p2 _ _ _ _ _ _) (p2 _ _ _ _ _ _) (st _ _ 3 [4, 5] a3 b3 _ (p3 _ _ _ _ _ _) (p3 _ _ _ _ _ _) (st _ _ 4 [5] a4 b4 _ (p4 _ _ _ _ _ _) (p4 _ _ _ _ _ _) (st _ _ 5 [] a5 b5 _ (p5 _ _ _ _ _ _) (p5 _ _ _ _ _ _) (hn _ _))))))
  rw [this, Bool.and_true]
theorem arr6_inv {w : World} {S : Nat → Prop} {d : Nat → Int} {v : Value} (h : VRel w S (.ag (arrI d 6)) v) : v = .agg #[.int .i64 (d 0), .int .i64 (d 1), .int .i64 (d 2), .int .i64 (d 3), .int .i64 (d 4), .int .i64 (d 5)] := by
  obtain ⟨vs, rfl, hv⟩ := ag_inv h
  have e : arrI d 6 = [intA (d 0), intA (d 1), intA (d 2), intA (d 3), intA (d 4), intA (d 5)] := rfl
  rw [e] at hv
  obtain ⟨v0, us, rfl, k0, hv⟩ := rels1 hv
  obtain ⟨v1, us, rfl, k1, hv⟩ := rels1 hv
  obtain ⟨v2, us, rfl, k2, hv⟩ := rels1 hv
  obtain ⟨v3, us, rfl, k3, hv⟩ := rels1 hv
  obtain ⟨v4, us, rfl, k4, hv⟩ := rels1 hv
  obtain ⟨v5, us, rfl, k5, hv⟩ := rels1 hv
  obtain rfl := rels0 hv
  rw [k0.lit_inv, k1.lit_inv, k2.lit_inv, k3.lit_inv, k4.lit_inv, k5.lit_inv]
theorem pv_eql_arr {o : Oper} {s : Slots} {t' : TypeId} {x z : Operand} {d e : Nat → Int} (ho : o.op = .binOp .eql 127 x z t') (hx : evA s x = some (.ag (arrI d 6))) (hz : evA s z = some (.ag (arrI e 6))) : PV Try.prog o s (boolA (eq6 d e)) := fun w S a hs => by
  have h1 := arr6_inv (hs.eval hx)
  have h2 := arr6_inv (hs.eval hz)
  refine ⟨.bool (eq6 d e), fun w' => ?_, .v _⟩
  have h3 := eq_arr (d 0) (d 1) (d 2) (d 3) (d 4) (d 5) (e 0) (e 1) (e 2) (e 3) (e 4) (e 5) w'
  simp [execOp, ho, h1, h2, eqGuard, binOp, h3, eq6]
end Go.Proofs.Ytallicfckbdeaaa
end
section
namespace Go.Proofs.Ytallicfckbdeaaa
open Go Go.RowKit Go.Tl
set_option linter.unusedVariables false
set_option linter.unusedSimpArgs false
theorem eq_rng (a b a' b' : Int) (w : World) : (Op.equal 46 (.agg #[.int .i64 a, .int .i64 b]) (.agg #[.int .i64 a', .int .i64 b'])).run Try.prog w = .ok (a == a' && b == b') w := by
  have h1 : Try.prog.stoodInHeld 46 = false := by kernel_rfl
  have h2 : Try.prog.underlying 46 = some (.struct (Try.prog.fieldsOf 46)) := by kernel_rfl
  have hfo : (Try.prog.fieldsOf 46).toList = (match Try.prog.underlying 46 with | some (.struct fs) => fs.toList | _ => []) := by kernel_rfl
  have q : ∀ (a b : Int) (w : World), (Op.equalIn 9999 3 (.int .i64 a) (.int .i64 b)).run Try.prog w = .ok (a == b) w := fun a b w => run_equalIn_int w 9998 3 .i64 .i64 a b Try.underlying3
  have p0 : ∀ (x y : Value) (w : World), (part 3 #[x, y] 0).run Try.prog w = .ok x w := fun x y w => by kernel_rfl
  have p1 : ∀ (x y : Value) (w : World), (part 3 #[x, y] 1).run Try.prog w = .ok y w := fun x y w => by kernel_rfl
  unfold Op.equal Op.maxDepth
  rw [run_equalIn_struct w 9999 46 _ _ h2 h1, hfo, Try.underlying46]
  cases h1 : (a == a') <;> cases h2 : (b == b') <;> simp [Op.eqFields, p0, p1, q, h1, h2]
theorem rng_inv {w : World} {S : Nat → Prop} {r : Int × Int} {v : Value} (h : VRel w S (.ag [intA r.1, intA r.2]) v) : v = .agg #[.int .i64 r.1, .int .i64 r.2] := by
  obtain ⟨vs, rfl, hv⟩ := ag_inv h
  obtain ⟨v1, us, rfl, k1, hv⟩ := rels1 hv
  obtain ⟨v2, us, rfl, k2, hv⟩ := rels1 hv
  obtain rfl := rels0 hv
  rw [k1.lit_inv, k2.lit_inv]
section
variable {o : Oper} {sl : Slots} {t' : TypeId} {x z : Operand} {q r : Int × Int}
theorem eq2_iff : (q.1 == r.1 && q.2 == r.2) = decide (q = r) := by
  obtain ⟨a, b⟩ := q
  obtain ⟨c, d⟩ := r
  rw [Bool.eq_iff_iff]
  simp
theorem pv_eql_rng (ho : o.op = .binOp .eql 46 x z t') (hx : evA sl x = some (.ag [intA q.1, intA q.2])) (hz : evA sl z = some (.ag [intA r.1, intA r.2])) : PV Try.prog o sl (boolA (decide (q = r))) := fun w S a hs => by
  have h1 := rng_inv (hs.eval hx)
  have h2 := rng_inv (hs.eval hz)
  rw [← eq2_iff]
  refine ⟨.bool (q.1 == r.1 && q.2 == r.2), fun w' => ?_, .v _⟩
  have h3 := eq_rng q.1 q.2 r.1 r.2 w'
  simp [execOp, ho, h1, h2, eqGuard, binOp, h3]
theorem pv_neq_rng (ho : o.op = .binOp .neq 46 x z t') (hx : evA sl x = some (.ag [intA q.1, intA q.2])) (hz : evA sl z = some (.ag [intA r.1, intA r.2])) : PV Try.prog o sl (boolA (!decide (q = r))) := fun w S a hs => by
  have h1 := rng_inv (hs.eval hx)
  have h2 := rng_inv (hs.eval hz)
  rw [← eq2_iff]
  refine ⟨.bool (!(q.1 == r.1 && q.2 == r.2)), fun w' => ?_, .v _⟩
  have h3 := eq_rng q.1 q.2 r.1 r.2 w'
  simp [execOp, ho, h1, h2, eqGuard, binOp, h3]
end
end Go.Proofs.Ytallicfckbdeaaa
end
