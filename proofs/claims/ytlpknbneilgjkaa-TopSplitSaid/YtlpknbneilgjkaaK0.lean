/- Splits' factors: keys of the map, arrays compared, a slice of an array variable. -/
import Derived.Test.YtlpknbneilgjkaaKA
import Derived.Test.YtlpknbneilgjkaaKZ
import Derived.Test.YtlpknbneilgjkaaMMe
namespace Go.Tl
open Go Go.RowKit
set_option linter.unusedVariables false
section
variable {P : Program} {o : Oper} {s : Slots}
theorem pv_slice_arr_hi (T : TT P) {t n e m g k : Nat} {x hi : Operand} (ho : o.op = .slice t x none (some hi) none) (hx : evA s x = some (.v (.pointer (some ⟨g, 0, none⟩)))) (hh : evA s hi = some (intA k)) (ht : f2 T.arr t = some (n, e, m)) (hk : 0 < k ∧ k ≤ n) : PV P o s (.v (.slice (some ⟨g, 0, none⟩) k n)) := fun w S a hs => by
  obtain ⟨j, hund, hj, hjs, hne⟩ := T.arr_at ht
  refine ⟨_, fun w' => ?_, .v _⟩
  cases n with
  | zero => omega
  | succ n =>
    simp [execOp, ho, hs.lit hx, hs.lit hh, Instr.sliceAt, Instr.sureAddr, Instr.slice, run_underlying hund, Instr.sliceBounds, asAddr, run_sizeOf' hj, Addr.add_lit, Instr.sliceBound, asIntOf]
    intro h
    omega
end
end Go.Tl
namespace Go.Proofs.Ytlpknbneilgjkaa.K
open Go Go.RowKit Go.Tl
set_option linter.unusedVariables false
set_option linter.unusedSimpArgs false
theorem key_ok (e : Bool) (a b : Int) (w : World) : (Instr.checkKey e 10000 209 (.agg #[.int .i64 a, .int .i64 b])).run Try.prog w = .ok () w := by kernel_rfl
theorem zero_st (w : World) : (zeroValue 3).run Try.prog w = .ok (.int .i64 0) w := by kernel_rfl
theorem eq_spot (a b c d : Int) (w : World) : (Op.equal 209 (.agg #[.int .i64 a, .int .i64 b]) (.agg #[.int .i64 c, .int .i64 d])).run Try.prog w = .ok (a == c && b == d) w := by
  have h1 : Try.prog.stoodInHeld 209 = false := by kernel_rfl
  have h2 : Try.prog.underlying 209 = some (.struct (Try.prog.fieldsOf 209)) := by kernel_rfl
  have hfo : (Try.prog.fieldsOf 209).toList = (match Try.prog.underlying 209 with | some (.struct fs) => fs.toList | _ => []) := by kernel_rfl
  unfold Op.equal Op.maxDepth
  rw [run_equalIn_struct w 9999 209 _ _ h2 h1, hfo, Try.underlying209]
  have p1 : ∀ (x y : Value) (w : World), (part 3 #[x, y] 0).run Try.prog w = .ok x w := fun x y w => by kernel_rfl
  have p2 : ∀ (x y : Value) (w : World), (part 3 #[x, y] 1).run Try.prog w = .ok y w := fun x y w => by kernel_rfl
  have q : ∀ (a b : Int) (w : World), (Op.equalIn 9999 3 (.int .i64 a) (.int .i64 b)).run Try.prog w = .ok (a == b) w := fun a b w => run_equalIn_int w 9998 3 .i64 .i64 a b Try.underlying3
  cases h1 : (a == c) <;> cases h2 : (b == d) <;> simp [Op.eqFields, p1, p2, q, h1, h2]
open M (pad4 arr4 Try.info3)
theorem eql_arr (p q : List Int) (w : World) : (binOp .eql 137 (.agg (arr4 p)) (.agg (arr4 q))).run Try.prog w = .ok (.bool (decide (pad4 p = pad4 q))) w := by
  obtain ⟨i0, hi, hz0, hz1, hz2⟩ := info_parts Try.info3
  have p0 : ∀ (a b c d : Value) (w : World), (part 3 #[a, b, c, d] (0 * Try.prog.cellsOf 3)).run Try.prog w = .ok a w := fun a b c d w => by kernel_rfl
  have p1 : ∀ (a b c d : Value) (w : World), (part 3 #[a, b, c, d] (1 * Try.prog.cellsOf 3)).run Try.prog w = .ok b w := fun a b c d w => by kernel_rfl
  have p2 : ∀ (a b c d : Value) (w : World), (part 3 #[a, b, c, d] (2 * Try.prog.cellsOf 3)).run Try.prog w = .ok c w := fun a b c d w => by kernel_rfl
  have p3 : ∀ (a b c d : Value) (w : World), (part 3 #[a, b, c, d] (3 * Try.prog.cellsOf 3)).run Try.prog w = .ok d w := fun a b c d w => by kernel_rfl
  have e : ∀ (a b : Int) (w : World), (Op.equalIn 9999 3 (.int .i64 a) (.int .i64 b)).run Try.prog w = .ok (a == b) w := fun a b w => run_equalIn_int w 9998 3 .i64 .i64 a b Try.underlying3
  have hr : List.range 4 = [0, 1, 2, 3] := by decide
  have h : (Op.equalIn 10000 137 (.agg (arr4 p)) (.agg (arr4 q))).run Try.prog w = .ok (decide (pad4 p = pad4 q)) w := by
    rw [run_equalIn_array w 9999 (arr4 p) (arr4 q) Try.underlying137 hi, hr]
    unfold arr4 pad4
    generalize p.getD 0 0 = a0
    generalize p.getD 1 0 = a1
    generalize p.getD 2 0 = a2
    generalize p.getD 3 0 = a3
    generalize q.getD 0 0 = b0
    generalize q.getD 1 0 = b1
    generalize q.getD 2 0 = b2
    generalize q.getD 3 0 = b3
    simp only [Op.eqItems, Sem.run_bind, p0, p1, p2, p3, e, Result.andThen_ok, Sem.run_ite, Sem.run_pure]
    by_cases h0 : a0 = b0 <;> by_cases h1 : a1 = b1 <;> by_cases h2 : a2 = b2 <;> by_cases h3 : a3 = b3 <;> simp [h0, h1, h2, h3]
  simp only [binOp]
  simp [Op.equal, Op.maxDepth, h]
theorem cmp_arr (p q : List Int) (x z : Operand) {r : Bool} (hr : decide (pad4 p = pad4 q) = r) : ∀ w, (do eqGuard .eql 137 x z (kV (pad4 p)) (kV (pad4 q)); binOp .eql 137 (kV (pad4 p)) (kV (pad4 q)) : Sem Value).run Try.prog w = .ok (.bool r) w := fun w => by
  subst hr
  have h1 := eql_arr p q w
  have e1 : kV (pad4 p) = .agg (arr4 p) := rfl
  have e2 : kV (pad4 q) = .agg (arr4 q) := rfl
  rw [e1, e2]
  have h2 : (eqGuard .eql 137 x z (.agg (arr4 p)) (.agg (arr4 q))).run Try.prog w = .ok () w := by
    have h3 : Try.prog.eqGuardType Try.prog.depth 137 = false := by kernel_rfl
    simp [eqGuard, h3]
  simp only [Sem.run_bind, h2, Result.andThen_ok, h1]
noncomputable def M204 : MK Try.prog 204 2 where
  kt := 209
  vt := 3
  z := .int .i64 0
  zA := intA 0
  fs := Try.prog.fieldsOf 209
  hm := Try.underlying204
  hk := by kernel_rfl
  hz := zero_st
  hzA := fun w S => .v _
  chk := fun e ks w h => by
    match ks, h with
    | [a, b], _ => exact key_ok e a b w
  eq := fun xs ys w h1 h2 => by
    match xs, h1, ys, h2 with
    | [a, b], _, [c, d], _ =>
      have := eq_spot a b c d w
      show (Op.equal 209 (.agg #[.int .i64 a, .int .i64 b]) (.agg #[.int .i64 c, .int .i64 d])).run Try.prog w = _
      rw [this]
      by_cases e1 : a = c <;> by_cases e2 : b = d <;> simp [e1, e2]
/-- the units of a share on a day -/
def uN (s : SplD) (n : Int) : Int := if s.day ≤ n then (720 * s.num).tdiv s.den else 720
theorem uN_bd {x : Int} {s : SplD} (hv : VSpl x s) (n : Int) : 0 ≤ uN s n ∧ uN s n ≤ 4320 := by
  have h1 := hv.num
  have h2 := hv.den
  unfold uN
  split
  · have e : (720 * s.num).tdiv s.den = 720 * s.num / s.den := Int.tdiv_eq_ediv_of_nonneg (by omega)
    rw [e]
    exact ⟨Int.ediv_nonneg (by omega) (by omega), Int.le_trans (Int.ediv_le_self _ (by omega)) (by omega)⟩
  · omega
/-- the factors that are known -/
def KnownU (s : SplD) (l : List (List Int × AV)) : Prop := ∀ ks y, lookL l ks = some y → ∃ n : Int, ks = [-1, n] ∧ y = intA (uN s n)
theorem KnownU.nil {s : SplD} : KnownU s [] := fun ks y h => by simp [lookL] at h
theorem KnownU.upd {s : SplD} {l : List (List Int × AV)} (h : KnownU s l) (n : Int) : KnownU s (updL l [-1, n] (intA (uN s n))) := fun ks y hk => by
  rw [M.look_upd] at hk
  split at hk
  · rename_i e
    cases hk
    exact ⟨n, e, rfl⟩
  · exact h ks y hk
abbrev wkE (gw gm : Nat) (c1 c2 : Bool) (x : Int) (s : SplD) (l : List (List Int × AV)) : List Ent := [.cl gw 206 [intA 1, .t (intsT c1 [x]), nilA, nilA, .t (splT c2 s), nilA, .v (.map (some gm))], mapE gm 2 l]
end Go.Proofs.Ytlpknbneilgjkaa.K
