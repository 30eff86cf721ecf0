/- Shifts, and, or: of numbers that are not below 0. -/
import Derived.Test.YteaoclpikdmkiaaGTx
namespace Go.Tl
open Go Go.RowKit
set_option linter.unusedVariables false
set_option linter.unusedSimpArgs false
theorem wu64 {x : Int} (h : 0 ≤ x ∧ x < 18446744073709551616) : IntKind.u64.wrap x = x := by
  simp [IntKind.wrap, IntKind.signed, IntKind.bits]
  omega
section
variable {P : Program} {o : Oper} {s : Slots} {t t' : TypeId} {x z : Operand} {a b c : Int}
theorem pv_shl {k : IntKind} (ho : o.op = .binOp .shl t x z t') (hx : evA s x = some (.v (.int .i64 a))) (hz : evA s z = some (.v (.int k b))) (h0 : 0 ≤ b) (hc : IntKind.i64.wrap (a * 2 ^ (min b.toNat 64)) = c) : PV P o s (.v (.int .i64 c)) :=
  pv_bin ho hx hz (fun w => by
    subst hc
    have : ¬ b < 0 := by omega
    simp [go_sem, Op.shift, this, IntKind.bits])
theorem pv_shr {k : IntKind} (ho : o.op = .binOp .shr t x z t') (hx : evA s x = some (.v (.int .i64 a))) (hz : evA s z = some (.v (.int k b))) (h0 : 0 ≤ b) (hc : a.fdiv (2 ^ (min b.toNat 64)) = c) : PV P o s (.v (.int .i64 c)) :=
  pv_bin ho hx hz (fun w => by
    subst hc
    have : ¬ b < 0 := by omega
    simp [go_sem, Op.shift, this, IntKind.bits])
theorem pv_and (ho : o.op = .binOp .and t x z t') {m n : Nat} (hx : evA s x = some (.v (.int .i64 (m : Int)))) (hz : evA s z = some (.v (.int .i64 (n : Int)))) (hm : m < 1000000) (hn : n < 1000000) : PV P o s (.v (.int .i64 ((m &&& n : Nat) : Int))) :=
  pv_bin ho hx hz (fun w => by
    have h1 : (m &&& n) ≤ m := Nat.and_le_left
    have e : IntKind.i64.wrap (((BitVec.ofInt 64 (m : Int)) &&& (BitVec.ofInt 64 (n : Int))).toNat : Int) = ((m &&& n : Nat) : Int) := by
      have : ((BitVec.ofInt 64 (m : Int)) &&& (BitVec.ofInt 64 (n : Int))).toNat = m &&& n := by
        rw [BitVec.ofInt_natCast, BitVec.ofInt_natCast, BitVec.toNat_and, BitVec.toNat_ofNat, BitVec.toNat_ofNat, Nat.mod_eq_of_lt (by omega), Nat.mod_eq_of_lt (by omega)]
      rw [this]
      exact wr64 (by omega)
    simp [go_sem, Op.intBits, IntKind.bits]
    exact e)
theorem pv_or (ho : o.op = .binOp .or t x z t') {m n : Nat} (hx : evA s x = some (.v (.int .i64 (m : Int)))) (hz : evA s z = some (.v (.int .i64 (n : Int)))) (hm : m < 2 ^ 20) (hn : n < 2 ^ 20) : PV P o s (.v (.int .i64 ((m ||| n : Nat) : Int))) :=
  pv_bin ho hx hz (fun w => by
    have h1 : (m ||| n) < 2 ^ 20 := Nat.or_lt_two_pow hm hn
    have e : IntKind.i64.wrap (((BitVec.ofInt 64 (m : Int)) ||| (BitVec.ofInt 64 (n : Int))).toNat : Int) = ((m ||| n : Nat) : Int) := by
      have : ((BitVec.ofInt 64 (m : Int)) ||| (BitVec.ofInt 64 (n : Int))).toNat = m ||| n := by
        rw [BitVec.ofInt_natCast, BitVec.ofInt_natCast, BitVec.toNat_or, BitVec.toNat_ofNat, BitVec.toNat_ofNat, Nat.mod_eq_of_lt (by omega), Nat.mod_eq_of_lt (by omega)]
      rw [this]
      exact wr64 (by omega)
    simp [go_sem, Op.intBits, IntKind.bits]
    exact e)
end
/-- a bit, as the program asks for it -/
theorem bit_fdiv (m : Nat) {i : Int} {j : Nat} (hi : i = (j : Int)) (hj : j ≤ 64) : (m : Int).fdiv (2 ^ (min i.toNat 64)) = ((m / 2 ^ j : Nat) : Int) := by
  subst hi
  rw [Int.toNat_natCast, Nat.min_eq_left hj]
  have : ((2 : Int) ^ j) = ((2 ^ j : Nat) : Int) := by simp
  rw [this, Int.fdiv_eq_ediv_of_nonneg _ (Int.natCast_nonneg _)]
  rfl
theorem bit_rem (m : Nat) : (m : Int).tmod 2 = ((m % 2 : Nat) : Int) := rfl
theorem bit_dec (m j : Nat) : decide (((m / 2 ^ j % 2 : Nat) : Int) = 1) = m.testBit j := by
  rw [Nat.testBit_eq_decide_div_mod_eq]
  exact decide_eq_decide.2 (by omega)
theorem shl_one {i : Int} {j : Nat} (hi : i = (j : Int)) (hj : j ≤ 20) : IntKind.i64.wrap (1 * 2 ^ (min i.toNat 64)) = ((2 ^ j : Nat) : Int) := by
  subst hi
  rw [Int.toNat_natCast, Nat.min_eq_left (by omega), Int.one_mul]
  have : ((2 : Int) ^ j) = ((2 ^ j : Nat) : Int) := by simp
  rw [this]
  have h2 : 2 ^ j ≤ 2 ^ 20 := Nat.pow_le_pow_right (by omega) hj
  generalize 2 ^ j = q at *
  exact wr64 (by omega)
end Go.Tl
