/- Joined texts: W18, W19, Pz, Py. -/
import Derived.Test.YtfiacjdkdjkiiaaZsW17
import Derived.Test.YtfiacjdkdjkiiaaMe0
section
namespace Go.Proofs.Ytfiacjdkdjkiiaa
open Go.RowKit
set_option linter.unusedVariables false
set_option linter.unusedSimpArgs false
attribute [local go_sem ↓] Go.wp_at_zero Go.wp_at_succ

def debtsL (b : BankD) (i : Nat) : List Rng := (List.range b.days.length).map (debtsN b i)
def callsL (b : BankD) (i : Nat) : List Rng := (List.range b.days.length).map (callsN b i)
theorem Valid.short {b : BankD} (h : Valid b) : Short b := by
  have h1 := h.days
  have h2 := h.loans
  have h3 := h.st
  exact ⟨fun k hk => by have := h.plen k hk; omega, fun k hk => by have := (h.loan k hk).2; omega, by omega, by omega⟩

end Go.Proofs.Ytfiacjdkdjkiiaa
end
section
namespace Go.Proofs.Ytfiacjdkdjkiiaa
open Go.RowKit
set_option linter.unusedVariables false
set_option linter.unusedSimpArgs false
attribute [local go_sem ↓] Go.wp_at_zero Go.wp_at_succ

/-- sums of calls of the first loans -/
def sumLo (b : BankD) (n j : Nat) : Int := sumI ((List.range j).map fun i => (callsN b i n).lo)
def sumHi (b : BankD) (n j : Nat) : Int := sumI ((List.range j).map fun i => (callsN b i n).hi)
def totalN (b : BankD) (n : Nat) : Rng := ⟨sumLo b n b.loans.length, sumHi b n b.loans.length⟩
theorem sumLo_succ (b : BankD) (n j : Nat) : sumLo b n (j + 1) = sumLo b n j + (callsN b j n).lo := by
  unfold sumLo; rw [List.range_succ, List.map_append, sumI_append]; simp [sumI]
theorem sumHi_succ (b : BankD) (n j : Nat) : sumHi b n (j + 1) = sumHi b n j + (callsN b j n).hi := by
  unfold sumHi; rw [List.range_succ, List.map_append, sumI_append]; simp [sumI]
theorem calls_bd {b : BankD} (hv : Valid b) (i n : Nat) (hn : n < b.days.length) (hi : i < b.loans.length) : 0 ≤ (callsN b i n).lo ∧ (callsN b i n).lo ≤ 500000 ∧ 0 ≤ (callsN b i n).hi ∧ (callsN b i n).hi ≤ 500000 := by
  have h1 := endSt_bd hv false true i n hn hi
  have h2 := endSt_bd hv true false i n hn hi
  exact ⟨h1.2.2.1, by show (endSt b false true i n).call ≤ _; omega, h2.2.2.1, by show (endSt b true false i n).call ≤ _; omega⟩
theorem sums_bd {b : BankD} (hv : Valid b) (n j : Nat) (hn : n < b.days.length) (hj : j ≤ b.loans.length) : 0 ≤ sumLo b n j ∧ sumLo b n j ≤ 500000 * j ∧ 0 ≤ sumHi b n j ∧ sumHi b n j ≤ 500000 * j := by
  induction j with
  | zero => simp [sumLo, sumHi, sumI]
  | succ j ih =>
    have h1 := ih (by omega)
    have h2 := calls_bd hv j n hn (by omega)
    rw [sumLo_succ, sumHi_succ]
    omega
def sureN (b : BankD) (n k : Nat) : List Int := ((List.range k).filter fun i => decide (0 < (callsN b i n).lo)).map fun i : Nat => (i : Int)
def mayN (b : BankD) (n k : Nat) : List Int := ((List.range k).filter fun i => decide (0 < (callsN b i n).hi)).map fun i : Nat => (i : Int)
theorem sureN_succ (b : BankD) (n k : Nat) : sureN b n (k + 1) = sureN b n k ++ if 0 < (callsN b k n).lo then [(k : Int)] else [] := by
  unfold sureN; rw [List.range_succ, List.filter_append, List.map_append]
  congr 1
  by_cases h : 0 < (callsN b k n).lo <;> simp [h]
theorem mayN_succ (b : BankD) (n k : Nat) : mayN b n (k + 1) = mayN b n k ++ if 0 < (callsN b k n).hi then [(k : Int)] else [] := by
  unfold mayN; rw [List.range_succ, List.filter_append, List.map_append]
  congr 1
  by_cases h : 0 < (callsN b k n).hi <;> simp [h]
end Go.Proofs.Ytfiacjdkdjkiiaa
end
section
namespace Go.Proofs.Ytfiacjdkdjkiiaa
open Go Go.RowKit Go.Tl
set_option linter.unusedVariables false
set_option linter.unusedSectionVars false
theorem map_getD0 {l : List Rng} {f : Rng → Int} {j : Nat} (hj : j < l.length) : (l.map f).getD j 0 = f (l.getD j default) := by simp [List.getD_eq_getElem?_getD, hj]
section
variable {b : BankD} {t : TruthD} (hv : Valid b) (ht : truthB b t = true)
include hv ht
theorem row_lo {k : Nat} (hk : k < b.days.length) : LeL ((b.days.getD k default).prices.map (sel false)) (t.prices.getD k []) := by
  have h1 := truthB_day ht hk
  have hpl := hv.plen k hk
  refine LeL_of_getD (by rw [List.length_map]; omega) fun j hj => ?_
  rw [List.length_map] at hj
  rw [map_getD0 hj]
  exact (inB_iff.1 (h1.2.2 j hj)).1
theorem row_hi {k : Nat} (hk : k < b.days.length) : LeL (t.prices.getD k []) ((b.days.getD k default).prices.map (sel true)) := by
  have h1 := truthB_day ht hk
  have hpl := hv.plen k hk
  refine LeL_of_getD (by rw [List.length_map]; omega) fun j hj => ?_
  have hj' : j < (b.days.getD k default).prices.length := by omega
  rw [map_getD0 hj']
  exact (inB_iff.1 (h1.2.2 j hj')).2
theorem rate_in {k : Nat} (hk : k < b.days.length) : sel false (b.days.getD k default).rate ≤ t.rates.getD k 0 ∧ t.rates.getD k 0 ≤ sel true (b.days.getD k default).rate := inB_iff.1 (truthB_day ht hk).2.1
theorem debt_in {i n : Nat} (hi : i < b.loans.length) (hn : n < b.days.length) : (debtsN b i n).lo ≤ (allSt b.loans t.prices t.rates i n).after ∧ (allSt b.loans t.prices t.rates i n).after ≤ (debtsN b i n).hi := by
  have hL := (hv.loan i hi).1
  constructor
  · refine st_mono hL (ends_small hv false false n hn) n ⟨fun k hk => ?_, fun k hk => ?_⟩
    · rw [endPs_get b _ _ n k hk]; unfold endRow; rw [ite_self]; exact row_lo hv ht (by omega)
    · rw [endRs_get b _ n k hk]; exact (rate_in hv ht (by omega)).1
  · refine st_mono hL (truth_small hv ht) n ⟨fun k hk => ?_, fun k hk => ?_⟩
    · rw [endPs_get b _ _ n k hk]; unfold endRow; rw [ite_self]; exact row_hi hv ht (by omega)
    · rw [endRs_get b _ n k hk]; exact (rate_in hv ht (by omega)).2
theorem call_in {i n : Nat} (hi : i < b.loans.length) (hn : n < b.days.length) : (callsN b i n).lo ≤ (allSt b.loans t.prices t.rates i n).call ∧ (allSt b.loans t.prices t.rates i n).call ≤ (callsN b i n).hi := by
  have hL := (hv.loan i hi).1
  constructor
  · refine st_call_mono hL (ends_small hv false true n hn) n (fun k hk => ?_) (fun k hk => ?_) ?_
    · rw [endPs_get b _ _ n k (by omega)]; unfold endRow; rw [if_neg (by omega)]; exact row_lo hv ht (by omega)
    · rw [endRs_get b _ n k hk]; exact (rate_in hv ht (by omega)).1
    · rw [endPs_get b _ _ n n (Nat.le_refl _)]; unfold endRow; rw [if_pos rfl]; exact row_hi hv ht hn
  · refine st_call_mono hL (truth_small hv ht) n (fun k hk => ?_) (fun k hk => ?_) ?_
    · rw [endPs_get b _ _ n k (by omega)]; unfold endRow; rw [if_neg (by omega)]; exact row_hi hv ht (by omega)
    · rw [endRs_get b _ n k hk]; exact (rate_in hv ht (by omega)).2
    · rw [endPs_get b _ _ n n (Nat.le_refl _)]; unfold endRow; rw [if_pos rfl]; exact row_lo hv ht hn
theorem sum_in {n k : Nat} (hk : k ≤ b.loans.length) (hn : n < b.days.length) : sumLo b n k ≤ sumI ((List.range k).map fun i => (allSt b.loans t.prices t.rates i n).call) ∧ sumI ((List.range k).map fun i => (allSt b.loans t.prices t.rates i n).call) ≤ sumHi b n k := by
  induction k with
  | zero => simp [sumLo, sumHi, sumI]
  | succ k ih =>
    have h1 := ih (by omega)
    have h2 := call_in hv ht (i := k) (by omega) hn
    rw [sumLo_succ, sumHi_succ, show (List.range (k + 1)).map (fun i => (allSt b.loans t.prices t.rates i n).call) = (List.range k).map (fun i => (allSt b.loans t.prices t.rates i n).call) ++ [_] from range_step _ k, sumI_append]
    have h3 : sumI [(allSt b.loans t.prices t.rates k n).call] = (allSt b.loans t.prices t.rates k n).call := by simp [sumI]
    omega
end
theorem some_truth0 {b : BankD} (hv : Valid b) : truthB b (pickedD b []) = true := picked_truth hv (fun x hx => by cases hx)
theorem calls_le {b : BankD} (hv : Valid b) {i n : Nat} (hi : i < b.loans.length) (hn : n < b.days.length) : (callsN b i n).lo ≤ (callsN b i n).hi := by
  have := call_in hv (some_truth0 hv) hi hn; omega
theorem debts_le {b : BankD} (hv : Valid b) {i n : Nat} (hi : i < b.loans.length) (hn : n < b.days.length) : (debtsN b i n).lo ≤ (debtsN b i n).hi := by
  have := debt_in hv (some_truth0 hv) hi hn; omega
theorem sure_mem {b : BankD} {n k i : Nat} (hi : i < k) : ((i : Int) ∈ sureN b n k) ↔ 0 < (callsN b i n).lo := by
  simp only [sureN, List.mem_map, List.mem_filter, List.mem_range, decide_eq_true_eq]
  exact ⟨fun ⟨j, ⟨_, h⟩, e⟩ => by have : j = i := by omega
                                  subst this; exact h, fun h => ⟨i, ⟨hi, h⟩, rfl⟩⟩
theorem may_mem {b : BankD} {n k i : Nat} (hi : i < k) : ((i : Int) ∈ mayN b n k) ↔ 0 < (callsN b i n).hi := by
  simp only [mayN, List.mem_map, List.mem_filter, List.mem_range, decide_eq_true_eq]
  exact ⟨fun ⟨j, ⟨_, h⟩, e⟩ => by have : j = i := by omega
                                  subst this; exact h, fun h => ⟨i, ⟨hi, h⟩, rfl⟩⟩
end Go.Proofs.Ytfiacjdkdjkiiaa
end
section
namespace Go.Proofs.Ytfiacjdkdjkiiaa
open Go Go.RowKit Go.Tl
set_option linter.unusedVariables false
set_option linter.unusedSectionVars false
def eVal (b : BankD) (hi last : Bool) (n i s : Nat) : Int := sel (if i = n then last else hi) ((b.days.getD i default).prices.getD s default)
def eRow (b : BankD) (hi last : Bool) (n i k : Nat) : List Int := (List.range k).map (eVal b hi last n i)
def ePs (b : BankD) (hi last : Bool) (n m : Nat) : List (List Int) := (List.range m).map fun i => eRow b hi last n i b.stocks.toNat
def eRs (b : BankD) (hi : Bool) (m : Nat) : List Int := (List.range m).map fun i => sel hi (b.days.getD i default).rate
def endsD (b : BankD) (hi last : Bool) (n : Nat) : TruthD := ⟨ePs b hi last n b.days.length, eRs b hi b.days.length⟩
theorem sel_in {h : Bool} {r : Rng} (hr : r.lo ≤ r.hi) : r.lo ≤ sel h r ∧ sel h r ≤ r.hi := by cases h <;> simp [sel] <;> omega
theorem range_map_list {l : List Rng} {f : Rng → Int} : (List.range l.length).map (fun s => f (l.getD s default)) = l.map f := by
  refine List.ext_getElem (by simp) fun k h1 h2 => ?_
  have hk : k < l.length := by simpa using h2
  simp [List.getD_eq_getElem?_getD, hk]
section
variable {b : BankD} (hv : Valid b)
include hv
theorem eRow_eq {hi last : Bool} {n i : Nat} (hi' : i < b.days.length) : eRow b hi last n i b.stocks.toNat = endRow b hi last n i := by
  have hpl := hv.plen i hi'
  have e : b.stocks.toNat = (b.days.getD i default).prices.length := by omega
  rw [e]
  unfold eRow endRow
  exact range_map_list
theorem ends_truth (hi last : Bool) (n : Nat) : truthB b (endsD b hi last n) = true := by
  have hst := hv.st
  refine truthB_mk hv (by simp [endsD, ePs]) (by simp [endsD, eRs]) (fun k hk => ?_) (fun k hk => ?_) (fun k hk j hj => ?_)
  · rw [show (endsD b hi last n).prices.getD k [] = eRow b hi last n k b.stocks.toNat from range_getD hk]; simp [eRow]
  · rw [show (endsD b hi last n).rates.getD k 0 = sel hi (b.days.getD k default).rate from range_getD hk]
    exact inB_iff.2 (sel_in (hv.rate k hk).2.1)
  · have hpl := hv.plen k hk
    rw [show (endsD b hi last n).prices.getD k [] = eRow b hi last n k b.stocks.toNat from range_getD hk, show (eRow b hi last n k b.stocks.toNat).getD j 0 = eVal b hi last n k j from range_getD hj]
    exact inB_iff.2 (sel_in (hv.price k hk j (by omega)).2.1)
theorem ends_st (hi last : Bool) {i n : Nat} (hn : n < b.days.length) : allSt b.loans (endsD b hi last n).prices (endsD b hi last n).rates i n = endSt b hi last i n := by
  unfold endSt allSt
  refine st_congr n (fun k hk => ?_) (fun k hk => ?_)
  · rw [show (endsD b hi last n).prices.getD k [] = eRow b hi last n k b.stocks.toNat from range_getD (by omega), eRow_eq hv (by omega), endPs_get b hi last n k hk]
  · rw [show (endsD b hi last n).rates.getD k 0 = sel hi (b.days.getD k default).rate from range_getD (by omega), endRs_get b hi n k hk]
end
def pickR (hi : Bool) (r : Rng) : Int := sel hi r
theorem debt_end {b : BankD} {i n : Nat} (hi : Bool) : (endSt b hi hi i n).after = sel hi (debtsN b i n) := by cases hi <;> rfl
theorem call_end {b : BankD} {i n : Nat} (hi : Bool) : (endSt b hi (!hi) i n).call = sel hi (callsN b i n) := by cases hi <;> rfl
def sumS (b : BankD) (hi : Bool) (n k : Nat) : Int := sel hi ⟨sumLo b n k, sumHi b n k⟩
theorem sumS_succ (b : BankD) (hi : Bool) (n k : Nat) : sumS b hi n (k + 1) = sumS b hi n k + sel hi (callsN b k n) := by
  cases hi
  · exact sumLo_succ b n k
  · exact sumHi_succ b n k
theorem sumS_zero (b : BankD) (hi : Bool) (n : Nat) : sumS b hi n 0 = 0 := by cases hi <;> simp [sumS, sel, sumLo, sumHi, sumI]
theorem sumS_bd {b : BankD} (hv : Valid b) (hi : Bool) {n k : Nat} (hn : n < b.days.length) (hk : k ≤ b.loans.length) : 0 ≤ sumS b hi n k ∧ sumS b hi n k ≤ 500000 * k := by
  have := sums_bd hv n k hn hk
  cases hi <;> simp only [sumS, sel] <;> simp <;> omega
theorem sumS_total {b : BankD} (hi : Bool) (n : Nat) : sumS b hi n b.loans.length = sel hi (totalN b n) := by cases hi <;> rfl
end Go.Proofs.Ytfiacjdkdjkiiaa
end
