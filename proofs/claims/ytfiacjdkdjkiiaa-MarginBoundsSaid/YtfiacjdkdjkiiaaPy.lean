/- The truths at the ends of all ranges. No program in sight. -/
import Derived.Test.YtfiacjdkdjkiiaaPz
import Derived.Test.YtfiacjdkdjkiiaaMe0
namespace Go.Proofs.Ytfiacjdkdjkiiaa
open Go Go.RowKit Go.Tl
set_option linter.unusedVariables false
set_option linter.unusedSectionVars false
def eVal (b : BankD) (hi last : Bool) (n i s : Nat) : Int := sel (if i = n then last else hi) ((b.days.getD i default).prices.getD s default)
def eRow (b : BankD) (hi last : Bool) (n i k : Nat) : List Int := (List.range k).map (eVal b hi last n i)
def ePs (b : BankD) (hi last : Bool) (n m : Nat) : List (List Int) := (List.range m).map fun i => eRow b hi last n i b.stocks.toNat
def eRs (b : BankD) (hi : Bool) (m : Nat) : List Int := (List.range m).map fun i => sel hi (b.days.getD i default).rate
def endsD (b : BankD) (hi last : Bool) (n : Nat) : TruthD := ⟨ePs b hi last n b.days.length, eRs b hi b.days.length⟩
theorem sel_in {h : Bool} {r : Rng} (hr : r.lo ≤ r.hi) : r.lo ≤ sel h r ∧ sel h r ≤ r.hi := by cases h <;> simp [sel] <;> omega
theorem range_map_list {l : List Rng} {f : Rng → Int} : (List.range l.length).map (fun s => f (l.getD s default)) = l.map f := by
  refine List.ext_getElem (by simp) fun k h1 h2 => ?_
  have hk : k < l.length := by simpa using h2
  simp [List.getD_eq_getElem?_getD, hk]
section
variable {b : BankD} (hv : Valid b)
include hv
theorem eRow_eq {hi last : Bool} {n i : Nat} (hi' : i < b.days.length) : eRow b hi last n i b.stocks.toNat = endRow b hi last n i := by
  have hpl := hv.plen i hi'
  have e : b.stocks.toNat = (b.days.getD i default).prices.length := by omega
  rw [e]
  unfold eRow endRow
  exact range_map_list
theorem ends_truth (hi last : Bool) (n : Nat) : truthB b (endsD b hi last n) = true := by
  have hst := hv.st
  refine truthB_mk hv (by simp [endsD, ePs]) (by simp [endsD, eRs]) (fun k hk => ?_) (fun k hk => ?_) (fun k hk j hj => ?_)
  · rw [show (endsD b hi last n).prices.getD k [] = eRow b hi last n k b.stocks.toNat from range_getD hk]; simp [eRow]
  · rw [show (endsD b hi last n).rates.getD k 0 = sel hi (b.days.getD k default).rate from range_getD hk]
    exact inB_iff.2 (sel_in (hv.rate k hk).2.1)
  · have hpl := hv.plen k hk
    rw [show (endsD b hi last n).prices.getD k [] = eRow b hi last n k b.stocks.toNat from range_getD hk, show (eRow b hi last n k b.stocks.toNat).getD j 0 = eVal b hi last n k j from range_getD hj]
    exact inB_iff.2 (sel_in (hv.price k hk j (by omega)).2.1)
theorem ends_st (hi last : Bool) {i n : Nat} (hn : n < b.days.length) : allSt b.loans (endsD b hi last n).prices (endsD b hi last n).rates i n = endSt b hi last i n := by
  unfold endSt allSt
  refine st_congr n (fun k hk => ?_) (fun k hk => ?_)
  · rw [show (endsD b hi last n).prices.getD k [] = eRow b hi last n k b.stocks.toNat from range_getD (by omega), eRow_eq hv (by omega), endPs_get b hi last n k hk]
  · rw [show (endsD b hi last n).rates.getD k 0 = sel hi (b.days.getD k default).rate from range_getD (by omega), endRs_get b hi n k hk]
end
def pickR (hi : Bool) (r : Rng) : Int := sel hi r
theorem debt_end {b : BankD} {i n : Nat} (hi : Bool) : (endSt b hi hi i n).after = sel hi (debtsN b i n) := by cases hi <;> rfl
theorem call_end {b : BankD} {i n : Nat} (hi : Bool) : (endSt b hi (!hi) i n).call = sel hi (callsN b i n) := by cases hi <;> rfl
def sumS (b : BankD) (hi : Bool) (n k : Nat) : Int := sel hi ⟨sumLo b n k, sumHi b n k⟩
theorem sumS_succ (b : BankD) (hi : Bool) (n k : Nat) : sumS b hi n (k + 1) = sumS b hi n k + sel hi (callsN b k n) := by
  cases hi
  · exact sumLo_succ b n k
  · exact sumHi_succ b n k
theorem sumS_zero (b : BankD) (hi : Bool) (n : Nat) : sumS b hi n 0 = 0 := by cases hi <;> simp [sumS, sel, sumLo, sumHi, sumI]
theorem sumS_bd {b : BankD} (hv : Valid b) (hi : Bool) {n k : Nat} (hn : n < b.days.length) (hk : k ≤ b.loans.length) : 0 ≤ sumS b hi n k ∧ sumS b hi n k ≤ 500000 * k := by
  have := sums_bd hv n k hn hk
  cases hi <;> simp only [sumS, sel] <;> simp <;> omega
theorem sumS_total {b : BankD} (hi : Bool) (n : Nat) : sumS b hi n b.loans.length = sel hi (totalN b n) := by cases hi <;> rfl
end Go.Proofs.Ytfiacjdkdjkiiaa
