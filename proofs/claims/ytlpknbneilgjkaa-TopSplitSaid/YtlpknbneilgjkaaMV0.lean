/- Ends of ranges, plain. -/
import Derived.Test.YtlpknbneilgjkaaMMf
import Derived.Test.YtlpknbneilgjkaaKZ
namespace Go.Proofs.Ytlpknbneilgjkaa.M
open Go Go.RowKit Go.Tl
set_option linter.unusedVariables false
set_option linter.unusedSimpArgs false
def sel (h : Bool) (r : Rng) : Int := if h then r.hi else r.lo
def selF (h : Bool) : Nat := if h then 91 else 90
abbrev selV (h : Bool) : Value := .func (.func (selF h)) #[] #[]
def endRow (b : BankD) (hi last : Bool) (n i : Nat) : List Int := (b.days.getD i default).prices.map (sel (if i = n then last else hi))
def endPs (b : BankD) (hi last : Bool) (n : Nat) : List (List Int) := (List.range (n + 1)).map (endRow b hi last n)
def endRs (b : BankD) (hi : Bool) (n : Nat) : List Int := (List.range (n + 1)).map fun i => sel hi (b.days.getD i default).rate
theorem endPs_get (b : BankD) (hi last : Bool) (n k : Nat) (h : k ≤ n) : (endPs b hi last n).getD k [] = endRow b hi last n k := by
  simp [endPs, List.getD_eq_getElem?_getD, List.getElem?_map, List.getElem?_range (show k < n + 1 by omega)]
theorem endRs_get (b : BankD) (hi : Bool) (n k : Nat) (h : k ≤ n) : (endRs b hi n).getD k 0 = sel hi (b.days.getD k default).rate := by
  simp [endRs, List.getD_eq_getElem?_getD, List.getElem?_map, List.getElem?_range (show k < n + 1 by omega)]
theorem sel_bd {h : Bool} {r : Rng} {m : Int} (hr : 0 ≤ r.lo ∧ r.lo ≤ r.hi ∧ r.hi ≤ m) : 0 ≤ sel h r ∧ sel h r ≤ m := by
  cases h <;> simp [sel] <;> omega
theorem ends_small {b : BankD} (hv : Valid b) (hi last : Bool) (n : Nat) (hn : n < b.days.length) : SmallT (endPs b hi last n) (endRs b hi n) := by
  refine ⟨fun k x hx => ?_, fun k => ?_⟩
  · by_cases hk : k ≤ n
    · rw [endPs_get _ _ _ _ _ hk] at hx
      simp only [endRow, List.mem_map] at hx
      obtain ⟨r, hr, rfl⟩ := hx
      obtain ⟨j, hj, rfl⟩ := mem_getD (d := (default : Rng)) hr
      exact sel_bd (hv.price k (by omega) j hj)
    · rw [List.getD_eq_getElem?_getD, List.getElem?_eq_none (by simp [endPs]; omega)] at hx
      simp at hx
  · by_cases hk : k ≤ n
    · rw [endRs_get _ _ _ _ hk]
      exact sel_bd (hv.rate k (by omega))
    · rw [List.getD_eq_getElem?_getD, List.getElem?_eq_none (by simp [endRs]; omega)]
      simp
theorem ends_len {b : BankD} (hv : Valid b) (hi last : Bool) (n i : Nat) (hn : n < b.days.length) (hi' : i < b.loans.length) : ∀ k, (b.loans.getD i default).shares.length = ((endPs b hi last n).getD k []).length ∨ (endPs b hi last n).length ≤ k := fun k => by
  by_cases hk : k ≤ n
  · left
    rw [endPs_get _ _ _ _ _ hk]
    have h1 := hv.plen k (by omega)
    have h2 := (hv.loan i hi').2
    show _ = ((b.days.getD k default).prices.map _).length
    rw [List.length_map]; omega
  · right; simp [endPs]; omega
/-- the state at an end -/
def endSt (b : BankD) (hi last : Bool) (i n : Nat) : St := allSt b.loans (endPs b hi last n) (endRs b hi n) i n
theorem endSt_bd {b : BankD} (hv : Valid b) (hi last : Bool) (i n : Nat) (hn : n < b.days.length) (hi' : i < b.loans.length) : 0 ≤ (endSt b hi last i n).before ∧ (endSt b hi last i n).before ≤ 500000 ∧ 0 ≤ (endSt b hi last i n).call ∧ (endSt b hi last i n).call ≤ (endSt b hi last i n).before := by
  have h := st_bd (hv.loan i hi').1 (ends_small hv hi last n hn) n
  have hd := hv.days
  have h2 := h.2.1 (by omega)
  exact ⟨h.1, by show (stN _ _ _ n).before ≤ _; omega, h.2.2.2.2.1, h.2.2.2.2.2.1⟩
def debtsN (b : BankD) (i n : Nat) : Rng := ⟨(endSt b false false i n).after, (endSt b true true i n).after⟩
def callsN (b : BankD) (i n : Nat) : Rng := ⟨(endSt b false true i n).call, (endSt b true false i n).call⟩
def debtsL (b : BankD) (i : Nat) : List Rng := (List.range b.days.length).map (debtsN b i)
def callsL (b : BankD) (i : Nat) : List Rng := (List.range b.days.length).map (callsN b i)
/-- the prices so far, as an array -/
def selArr (l : List Rng) (y : Bool) (j q : Nat) : Int := if q < j then sel y (l.getD q default) else 0
theorem selArr_step (l : List Rng) (y : Bool) (j q : Nat) : selArr l y (j + 1) q = if q = j then sel y (l.getD j default) else selArr l y j q := by
  unfold selArr
  by_cases h : q = j
  · subst h; rw [if_pos (by omega), if_pos rfl]
  · rw [if_neg h]
    by_cases h2 : q < j
    · rw [if_pos (by omega), if_pos h2]
    · rw [if_neg (by omega), if_neg h2]
theorem selArr_end {l : List Rng} (y : Bool) (h : l.length ≤ 4) : arrI (selArr l y l.length) 4 = arrRow (l.map (sel y)) := by
  have e : ∀ q, selArr l y l.length q = (l.map (sel y)).getD q 0 := fun q => by
    unfold selArr
    split
    · rename_i hq
      simp [List.getD_eq_getElem?_getD, hq]
    · rename_i hq
      simp [List.getD_eq_getElem?_getD, hq]
  unfold arrRow
  rw [← e 0, ← e 1, ← e 2, ← e 3]
  rfl
theorem pv_field157 {o : Oper} {sl : Slots} {x : Operand} {a c d : Int} (ho : o.op = .field 157 x 2) (hx : evA sl x = some (.ag [intA a, intA c, intA d])) : PV Try.prog o sl (intA d) := fun w S act hs => by
  have h1 := hs.eval hx
  generalize hv : act.eval x = v at *
  cases h1 with
  | @ag cs vs hl hh =>
    have := VRels.lits_inv (xs := [.int .i64 a, .int .i64 c, .int .i64 d]) (vs := vs) ⟨hl, hh⟩
    subst this
    refine ⟨.int .i64 d, fun w' => ?_, .v _⟩
    simp only [execOp, ho, hv]
    have h2 : ∀ w, (Instr.field 157 (.agg #[.int .i64 a, .int .i64 c, .int .i64 d]) 2).run Try.prog w = .ok (.int .i64 d) w := fun w => by kernel_rfl
    simp [h2]
end Go.Proofs.Ytlpknbneilgjkaa.M
