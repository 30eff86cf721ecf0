/- Sales and ranges are compared; a map whose keys are sales. -/
import Derived.Test.YteaoclpikdmkiaaMz
import Derived.Test.YteaoclpikdmkiaaNn
import Derived.ChangeKeysEq
namespace Go.Proofs.Yteaoclpikdmkiaa
open Go Go.RowKit Go.Tl
set_option linter.unusedVariables false
set_option linter.unusedSimpArgs false
def saleV (s : SaleD) : Value := .agg #[.int .i64 s.buyer, .int .i64 s.seller, .int .i64 s.num, .int .i64 s.price]
def eq4B (s t : SaleD) : Bool := s.buyer == t.buyer && (s.seller == t.seller && (s.num == t.num && s.price == t.price))
theorem eq4_iff {s t : SaleD} : eq4B s t = decide (s = t) := by
  obtain ⟨a, b, c, d⟩ := s
  obtain ⟨a', b', c', d'⟩ := t
  rw [Bool.eq_iff_iff]
  simp [eq4B]
theorem eqf4 (w : World) (a b c d a' b' c' d' : Int) :
    (Op.eqFields 9999 #[.int .i64 a, .int .i64 b, .int .i64 c, .int .i64 d] #[.int .i64 a', .int .i64 b', .int .i64 c', .int .i64 d'] (match Try.prog.underlying 75 with | some (.struct fs) => fs.toList | _ => [])).run Try.prog w = .ok (a == a' && (b == b' && (c == c' && d == d'))) w := by
  have q : ∀ (a b : Int) (w : World), (Op.equalIn 9999 3 (.int .i64 a) (.int .i64 b)).run Try.prog w = .ok (a == b) w := fun a b w => run_equalIn_int w 9998 3 .i64 .i64 a b Try.underlying3
  have p0 : ∀ (x y u v : Value) (w : World), (part 3 #[x, y, u, v] 0).run Try.prog w = .ok x w := fun x y u v w => by kernel_rfl
  have p1 : ∀ (x y u v : Value) (w : World), (part 3 #[x, y, u, v] 1).run Try.prog w = .ok y w := fun x y u v w => by kernel_rfl
  have p2 : ∀ (x y u v : Value) (w : World), (part 3 #[x, y, u, v] 2).run Try.prog w = .ok u w := fun x y u v w => by kernel_rfl
  have p3 : ∀ (x y u v : Value) (w : World), (part 3 #[x, y, u, v] 3).run Try.prog w = .ok v w := fun x y u v w => by kernel_rfl
  rw [Try.underlying75]
  cases h1 : (a == a') <;> cases h2 : (b == b') <;> cases h3 : (c == c') <;> cases h4 : (d == d') <;> simp [Op.eqFields, p0, p1, p2, p3, q, h1, h2, h3, h4]
theorem eq_sale (a b c d a' b' c' d' : Int) (w : World) : (Op.equal 75 (.agg #[.int .i64 a, .int .i64 b, .int .i64 c, .int .i64 d]) (.agg #[.int .i64 a', .int .i64 b', .int .i64 c', .int .i64 d'])).run Try.prog w = .ok (a == a' && (b == b' && (c == c' && d == d'))) w := by
  have h1 : Try.prog.stoodInHeld 75 = false := by kernel_rfl
  have h2 : Try.prog.underlying 75 = some (.struct (Try.prog.fieldsOf 75)) := by kernel_rfl
  have hfo : (Try.prog.fieldsOf 75).toList = (match Try.prog.underlying 75 with | some (.struct fs) => fs.toList | _ => []) := by kernel_rfl
  unfold Op.equal Op.maxDepth
  rw [run_equalIn_struct w 9999 75 _ _ h2 h1, hfo]
  exact eqf4 w a b c d a' b' c' d'
theorem eq_sale94 (a b c d a' b' c' d' : Int) (w : World) : (Op.equal 94 (.agg #[.int .i64 a, .int .i64 b, .int .i64 c, .int .i64 d]) (.agg #[.int .i64 a', .int .i64 b', .int .i64 c', .int .i64 d'])).run Try.prog w = .ok (a == a' && (b == b' && (c == c' && d == d'))) w := by
  have h1 : Try.prog.stoodInHeld 94 = false := by kernel_rfl
  have h2 : Try.prog.underlying 94 = some (.struct (Try.prog.fieldsOf 94)) := by kernel_rfl
  have hfo : (Try.prog.fieldsOf 94).toList = (match Try.prog.underlying 75 with | some (.struct fs) => fs.toList | _ => []) := by kernel_rfl
  unfold Op.equal Op.maxDepth
  rw [run_equalIn_struct w 9999 94 _ _ h2 h1, hfo]
  exact eqf4 w a b c d a' b' c' d'
theorem eq_rng (a b a' b' : Int) (w : World) : (Op.equal 54 (.agg #[.int .i64 a, .int .i64 b]) (.agg #[.int .i64 a', .int .i64 b'])).run Try.prog w = .ok (a == a' && b == b') w := by
  have h1 : Try.prog.stoodInHeld 54 = false := by kernel_rfl
  have h2 : Try.prog.underlying 54 = some (.struct (Try.prog.fieldsOf 54)) := by kernel_rfl
  have hfo : (Try.prog.fieldsOf 54).toList = (match Try.prog.underlying 54 with | some (.struct fs) => fs.toList | _ => []) := by kernel_rfl
  have q : ∀ (a b : Int) (w : World), (Op.equalIn 9999 3 (.int .i64 a) (.int .i64 b)).run Try.prog w = .ok (a == b) w := fun a b w => run_equalIn_int w 9998 3 .i64 .i64 a b Try.underlying3
  have p0 : ∀ (x y : Value) (w : World), (part 3 #[x, y] 0).run Try.prog w = .ok x w := fun x y w => by kernel_rfl
  have p1 : ∀ (x y : Value) (w : World), (part 3 #[x, y] 1).run Try.prog w = .ok y w := fun x y w => by kernel_rfl
  unfold Op.equal Op.maxDepth
  rw [run_equalIn_struct w 9999 54 _ _ h2 h1, hfo, Try.underlying54]
  cases h1 : (a == a') <;> cases h2 : (b == b') <;> simp [Op.eqFields, p0, p1, q, h1, h2]
theorem sale_inv {w : World} {S : Nat → Prop} {s : SaleD} {v : Value} (h : VRel w S (saleA s) v) : v = saleV s := by
  obtain ⟨vs, rfl, hv⟩ := ag_inv h
  obtain ⟨v1, us, rfl, k1, hv⟩ := rels1 hv
  obtain ⟨v2, us, rfl, k2, hv⟩ := rels1 hv
  obtain ⟨v3, us, rfl, k3, hv⟩ := rels1 hv
  obtain ⟨v4, us, rfl, k4, hv⟩ := rels1 hv
  obtain rfl := rels0 hv
  rw [k1.lit_inv, k2.lit_inv, k3.lit_inv, k4.lit_inv]
  rfl
theorem rng_inv {w : World} {S : Nat → Prop} {r : Int × Int} {v : Value} (h : VRel w S (.ag [intA r.1, intA r.2]) v) : v = .agg #[.int .i64 r.1, .int .i64 r.2] := by
  obtain ⟨vs, rfl, hv⟩ := ag_inv h
  obtain ⟨v1, us, rfl, k1, hv⟩ := rels1 hv
  obtain ⟨v2, us, rfl, k2, hv⟩ := rels1 hv
  obtain rfl := rels0 hv
  rw [k1.lit_inv, k2.lit_inv]
section
variable {o : Oper} {sl : Slots} {t' : TypeId} {x z : Operand} {s t : SaleD} {q r : Int × Int}
theorem pv_eql_sale (ho : o.op = .binOp .eql 75 x z t') (hx : evA sl x = some (saleA s)) (hz : evA sl z = some (saleA t)) : PV Try.prog o sl (boolA (decide (s = t))) := fun w S a hs => by
  have h1 := sale_inv (hs.eval hx)
  have h2 := sale_inv (hs.eval hz)
  rw [← eq4_iff]
  refine ⟨.bool (eq4B s t), fun w' => ?_, .v _⟩
  have h3 := eq_sale s.buyer s.seller s.num s.price t.buyer t.seller t.num t.price w'
  simp [execOp, ho, h1, h2, saleV, eqGuard, binOp, h3, eq4B]
theorem pv_neq_sale (ho : o.op = .binOp .neq 75 x z t') (hx : evA sl x = some (saleA s)) (hz : evA sl z = some (saleA t)) : PV Try.prog o sl (boolA (!decide (s = t))) := fun w S a hs => by
  have h1 := sale_inv (hs.eval hx)
  have h2 := sale_inv (hs.eval hz)
  rw [← eq4_iff]
  refine ⟨.bool (!eq4B s t), fun w' => ?_, .v _⟩
  have h3 := eq_sale s.buyer s.seller s.num s.price t.buyer t.seller t.num t.price w'
  simp [execOp, ho, h1, h2, saleV, eqGuard, binOp, h3, eq4B]
theorem pv_eql_sale94 (ho : o.op = .binOp .eql 94 x z t') (hx : evA sl x = some (saleA s)) (hz : evA sl z = some (saleA t)) : PV Try.prog o sl (boolA (decide (s = t))) := fun w S a hs => by
  have h1 := sale_inv (hs.eval hx)
  have h2 := sale_inv (hs.eval hz)
  rw [← eq4_iff]
  refine ⟨.bool (eq4B s t), fun w' => ?_, .v _⟩
  have h3 := eq_sale94 s.buyer s.seller s.num s.price t.buyer t.seller t.num t.price w'
  simp [execOp, ho, h1, h2, saleV, eqGuard, binOp, h3, eq4B]
theorem pv_neq_sale94 (ho : o.op = .binOp .neq 94 x z t') (hx : evA sl x = some (saleA s)) (hz : evA sl z = some (saleA t)) : PV Try.prog o sl (boolA (!decide (s = t))) := fun w S a hs => by
  have h1 := sale_inv (hs.eval hx)
  have h2 := sale_inv (hs.eval hz)
  rw [← eq4_iff]
  refine ⟨.bool (!eq4B s t), fun w' => ?_, .v _⟩
  have h3 := eq_sale94 s.buyer s.seller s.num s.price t.buyer t.seller t.num t.price w'
  simp [execOp, ho, h1, h2, saleV, eqGuard, binOp, h3, eq4B]
theorem eq2_iff : (q.1 == r.1 && q.2 == r.2) = decide (q = r) := by
  obtain ⟨a, b⟩ := q
  obtain ⟨c, d⟩ := r
  rw [Bool.eq_iff_iff]
  simp
theorem pv_eql_rng (ho : o.op = .binOp .eql 54 x z t') (hx : evA sl x = some (.ag [intA q.1, intA q.2])) (hz : evA sl z = some (.ag [intA r.1, intA r.2])) : PV Try.prog o sl (boolA (decide (q = r))) := fun w S a hs => by
  have h1 := rng_inv (hs.eval hx)
  have h2 := rng_inv (hs.eval hz)
  rw [← eq2_iff]
  refine ⟨.bool (q.1 == r.1 && q.2 == r.2), fun w' => ?_, .v _⟩
  have h3 := eq_rng q.1 q.2 r.1 r.2 w'
  simp [execOp, ho, h1, h2, eqGuard, binOp, h3]
theorem pv_neq_rng (ho : o.op = .binOp .neq 54 x z t') (hx : evA sl x = some (.ag [intA q.1, intA q.2])) (hz : evA sl z = some (.ag [intA r.1, intA r.2])) : PV Try.prog o sl (boolA (!decide (q = r))) := fun w S a hs => by
  have h1 := rng_inv (hs.eval hx)
  have h2 := rng_inv (hs.eval hz)
  rw [← eq2_iff]
  refine ⟨.bool (!(q.1 == r.1 && q.2 == r.2)), fun w' => ?_, .v _⟩
  have h3 := eq_rng q.1 q.2 r.1 r.2 w'
  simp [execOp, ho, h1, h2, eqGuard, binOp, h3]
end
theorem skey_ok (e : Bool) (a b c d : Int) (w : World) : (Instr.checkKey e 10000 75 (.agg #[.int .i64 a, .int .i64 b, .int .i64 c, .int .i64 d])).run Try.prog w = .ok () w := by kernel_rfl
theorem ask_s (k : SaleD) : ∀ (ks : List SaleD) (es : List MapEntry) (j : Nat) (w : World), KRel saleV ks es → (Instr.findAsking 75 (saleV k) es j).run Try.prog w = .ok (findG k ks es j) w
  | _, _, j, w, .nil => by simp [Instr.findAsking, findG]
  | k' :: ks, e :: es, j, w, .cons hk h => by
    have ih := ask_s k ks es (j + 1) w h
    have he : ∀ w, (Op.equal 75 (saleV k) e.key).run Try.prog w = .ok (decide (k = k')) w := fun w => by
      rw [hk, ← eq4_iff]
      exact eq_sale _ _ _ _ _ _ _ _ w
    by_cases c : k = k'
    · subst c; simp [Instr.findAsking, he, findG]
    · simp [Instr.findAsking, he, findG, c, ih]
noncomputable def Msl : MG Try.prog 115 SaleD where
  kt := 75
  vt := 3
  z := .int .i64 0
  zA := intA 0
  kv := saleV
  ka := saleA
  hm := by kernel_rfl
  inv := fun w S k v h => sale_inv h
  hz := fun w => by kernel_rfl
  hzA := fun w S => .v _
  chk := fun e k w => skey_ok e _ _ _ _ w
  bits := fun k => by simp [saleV, Instr.sameBits]
  find := fun k ks es w h => by
    have h2 : Try.prog.underlying 75 = some (.struct (Try.prog.fieldsOf 75)) := by kernel_rfl
    cases h with
    | nil => simp [Instr.findKey, run_underlying h2, Instr.findNow, findG]
    | @cons k' e ks es hk h =>
      have hn : Instr.findNow (.struct (Try.prog.fieldsOf 75)) (saleV k) (e :: es) 0 = none := by simp [Instr.findNow, Instr.sameNow]
      have := ask_s k _ _ 0 w (.cons hk h)
      simp [Instr.findKey, run_underlying h2, hn, this]
theorem saleV_inj (s t : SaleD) (h : saleV s = saleV t) : s = t := by
  obtain ⟨a, b, c, d⟩ := s
  obtain ⟨a', b', c', d'⟩ := t
  simp [saleV] at h
  simp [h]
theorem saleV_rel (s : SaleD) (w : World) (S : Nat → Prop) : VRel w S (saleA s) (saleV s) := .ag (vs := [.int .i64 s.buyer, .int .i64 s.seller, .int .i64 s.num, .int .i64 s.price]) rfl fun j x y hx hy => by
  match j with
  | 0 => simp at hx hy; subst hx hy; exact .v _
  | 1 => simp at hx hy; subst hx hy; exact .v _
  | 2 => simp at hx hy; subst hx hy; exact .v _
  | 3 => simp at hx hy; subst hx hy; exact .v _
  | j + 4 => simp at hx
/-- how often each sale is recorded -/
abbrev recM (g : Nat) (F : SaleD → Int) : Ent := mapF saleV (intA 0) g (fun s => intA (F s)) none
abbrev recZ (g : Nat) (F : SaleD → Int) : Ent := mapZ saleV (intA 0) g (fun s => intA (F s))
end Go.Proofs.Yteaoclpikdmkiaa
