/- Maps with numbers as keys, and with arcs. -/
import Derived.Test.YtilhflfbbfeakaaMpg
import Derived.Test.YtilhflfbbfeakaaRa
namespace Go.Proofs.Ytilhflfbbfeakaa
open Go Go.RowKit Go.Tl
set_option linter.unusedVariables false
set_option linter.unusedSimpArgs false
def ikV (k : Int) : Value := .int .i64 k
theorem now_i (k : Int) : ∀ (ks : List Int) (es : List MapEntry) (j : Nat), KRel ikV ks es → Instr.findNow (.int .i64) (ikV k) es j = some (findG k ks es j)
  | _, _, j, .nil => rfl
  | k' :: ks, e :: es, j, .cons hk h => by
    simp only [Instr.findNow, hk, ikV, Instr.sameNow, if_true, findG]
    have ih := now_i k ks es (j + 1) h
    by_cases c : k = k'
    · subst c; simp
    · rw [if_neg c]
      have : (k == k') = false := by simpa using c
      simp only [this]
      exact ih
noncomputable def Mi : MG Try.prog 124 Int where
  kt := 3
  vt := 4
  z := .bool false
  zA := boolA false
  kv := ikV
  ka := intA
  hm := by kernel_rfl
  inv := fun w S k v h => h.lit_inv
  hz := fun w => by kernel_rfl
  hzA := fun w S => .v _
  chk := fun e k w => by kernel_rfl
  bits := fun k => by simp [ikV, Instr.sameBits]
  find := fun k ks es w h => by
    have h3 : Try.prog.underlying 3 = some (.int .i64) := Try.underlying3
    simp [Instr.findKey, run_underlying h3, now_i k ks es 0 h]
def akV (k : Nat × Bool) : Value := .agg #[.int .i64 k.1, .bool k.2]
theorem akey_ok (e : Bool) (a : Int) (b : Bool) (w : World) : (Instr.checkKey e 10000 118 (.agg #[.int .i64 a, .bool b])).run Try.prog w = .ok () w := by kernel_rfl
theorem eq_arc (a c : Int) (b d : Bool) (w : World) : (Op.equal 118 (.agg #[.int .i64 a, .bool b]) (.agg #[.int .i64 c, .bool d])).run Try.prog w = .ok (a == c && b == d) w := by
  have h1 : Try.prog.stoodInHeld 118 = false := by kernel_rfl
  have h2 : Try.prog.underlying 118 = some (.struct (Try.prog.fieldsOf 118)) := by kernel_rfl
  have hfo : (Try.prog.fieldsOf 118).toList = (match Try.prog.underlying 118 with | some (.struct fs) => fs.toList | _ => []) := by kernel_rfl
  unfold Op.equal Op.maxDepth
  rw [run_equalIn_struct w 9999 118 _ _ h2 h1, hfo, Try.underlying118]
  have p1 : ∀ (x y : Value) (w : World), (part 3 #[x, y] 0).run Try.prog w = .ok x w := fun x y w => by kernel_rfl
  have p2 : ∀ (x y : Value) (w : World), (part 4 #[x, y] 1).run Try.prog w = .ok y w := fun x y w => by kernel_rfl
  have q : ∀ (a b : Int) (w : World), (Op.equalIn 9999 3 (.int .i64 a) (.int .i64 b)).run Try.prog w = .ok (a == b) w := fun a b w => run_equalIn_int w 9998 3 .i64 .i64 a b Try.underlying3
  have q2 : ∀ (a b : Bool) (w : World), (Op.equalIn 9999 4 (.bool a) (.bool b)).run Try.prog w = .ok (a == b) w := fun a b w => run_equalIn_bool w 9998 4 a b Try.underlying4
  cases h1 : (a == c) <;> cases h2 : (b == d) <;> simp [Op.eqFields, p1, p2, q, q2, h1, h2]
theorem ask_a (k : Nat × Bool) : ∀ (ks : List (Nat × Bool)) (es : List MapEntry) (j : Nat) (w : World), KRel akV ks es → (Instr.findAsking 118 (akV k) es j).run Try.prog w = .ok (findG k ks es j) w
  | _, _, j, w, .nil => by simp [Instr.findAsking, findG]
  | k' :: ks, e :: es, j, w, .cons hk h => by
    have ih := ask_a k ks es (j + 1) w h
    have he : ∀ w, (Op.equal 118 (akV k) e.key).run Try.prog w = .ok (decide (k = k')) w := fun w => by
      rw [hk]
      have := eq_arc k.1 k'.1 k.2 k'.2 w
      show (Op.equal 118 (.agg #[.int .i64 k.1, .bool k.2]) (.agg #[.int .i64 k'.1, .bool k'.2])).run Try.prog w = _
      rw [this]
      obtain ⟨a, b⟩ := k
      obtain ⟨c, d⟩ := k'
      by_cases e1 : a = c
      · subst e1
        by_cases e2 : b = d
        · subst e2; simp
        · simp [e2]
      · have : ((a : Int) == (c : Int)) = false := beq_false_of_ne (fun x => e1 (Int.ofNat.inj x))
        simp [this, e1]
    by_cases c : k = k'
    · subst c; simp [Instr.findAsking, he, findG]
    · simp [Instr.findAsking, he, findG, c, ih]
noncomputable def Ma : MG Try.prog 114 (Nat × Bool) where
  kt := 118
  vt := 3
  z := .int .i64 0
  zA := intA 0
  kv := akV
  ka := fun k => .ag [intA k.1, boolA k.2]
  hm := by kernel_rfl
  inv := fun w S k v h => by
    obtain ⟨vs, rfl, hv⟩ := ag_inv h
    obtain ⟨v1, us, rfl, k1, hv⟩ := rels1 hv
    obtain ⟨v2, us, rfl, k2, hv⟩ := rels1 hv
    obtain rfl := rels0 hv
    rw [k1.lit_inv, k2.lit_inv]
    rfl
  hz := fun w => by kernel_rfl
  hzA := fun w S => .v _
  chk := fun e k w => akey_ok e k.1 k.2 w
  bits := fun k => by
    obtain ⟨a, b⟩ := k
    simp [akV, Instr.sameBits]
  find := fun k ks es w h => by
    have h2 : Try.prog.underlying 118 = some (.struct (Try.prog.fieldsOf 118)) := by kernel_rfl
    cases h with
    | nil => simp [Instr.findKey, run_underlying h2, Instr.findNow, findG]
    | @cons k' e ks es hk h =>
      have hn : Instr.findNow (.struct (Try.prog.fieldsOf 118)) (akV k) (e :: es) 0 = none := by simp [Instr.findNow, Instr.sameNow]
      have := ask_a k _ _ 0 w (.cons hk h)
      simp [Instr.findKey, run_underlying h2, hn, this]
end Go.Proofs.Ytilhflfbbfeakaa
