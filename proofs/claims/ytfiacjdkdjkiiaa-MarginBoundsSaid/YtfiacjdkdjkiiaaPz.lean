/- Each truth lies within the bounds. No program in sight. -/
import Derived.Test.YtfiacjdkdjkiiaaMe0
import Derived.Test.YtfiacjdkdjkiiaaW19
namespace Go.Proofs.Ytfiacjdkdjkiiaa
open Go Go.RowKit Go.Tl
set_option linter.unusedVariables false
set_option linter.unusedSectionVars false
theorem map_getD0 {l : List Rng} {f : Rng → Int} {j : Nat} (hj : j < l.length) : (l.map f).getD j 0 = f (l.getD j default) := by simp [List.getD_eq_getElem?_getD, hj]
section
variable {b : BankD} {t : TruthD} (hv : Valid b) (ht : truthB b t = true)
include hv ht
theorem row_lo {k : Nat} (hk : k < b.days.length) : LeL ((b.days.getD k default).prices.map (sel false)) (t.prices.getD k []) := by
  have h1 := truthB_day ht hk
  have hpl := hv.plen k hk
  refine LeL_of_getD (by rw [List.length_map]; omega) fun j hj => ?_
  rw [List.length_map] at hj
  rw [map_getD0 hj]
  exact (inB_iff.1 (h1.2.2 j hj)).1
theorem row_hi {k : Nat} (hk : k < b.days.length) : LeL (t.prices.getD k []) ((b.days.getD k default).prices.map (sel true)) := by
  have h1 := truthB_day ht hk
  have hpl := hv.plen k hk
  refine LeL_of_getD (by rw [List.length_map]; omega) fun j hj => ?_
  have hj' : j < (b.days.getD k default).prices.length := by omega
  rw [map_getD0 hj']
  exact (inB_iff.1 (h1.2.2 j hj')).2
theorem rate_in {k : Nat} (hk : k < b.days.length) : sel false (b.days.getD k default).rate ≤ t.rates.getD k 0 ∧ t.rates.getD k 0 ≤ sel true (b.days.getD k default).rate := inB_iff.1 (truthB_day ht hk).2.1
theorem debt_in {i n : Nat} (hi : i < b.loans.length) (hn : n < b.days.length) : (debtsN b i n).lo ≤ (allSt b.loans t.prices t.rates i n).after ∧ (allSt b.loans t.prices t.rates i n).after ≤ (debtsN b i n).hi := by
  have hL := (hv.loan i hi).1
  constructor
  · refine st_mono hL (ends_small hv false false n hn) n ⟨fun k hk => ?_, fun k hk => ?_⟩
    · rw [endPs_get b _ _ n k hk]; unfold endRow; rw [ite_self]; exact row_lo hv ht (by omega)
    · rw [endRs_get b _ n k hk]; exact (rate_in hv ht (by omega)).1
  · refine st_mono hL (truth_small hv ht) n ⟨fun k hk => ?_, fun k hk => ?_⟩
    · rw [endPs_get b _ _ n k hk]; unfold endRow; rw [ite_self]; exact row_hi hv ht (by omega)
    · rw [endRs_get b _ n k hk]; exact (rate_in hv ht (by omega)).2
theorem call_in {i n : Nat} (hi : i < b.loans.length) (hn : n < b.days.length) : (callsN b i n).lo ≤ (allSt b.loans t.prices t.rates i n).call ∧ (allSt b.loans t.prices t.rates i n).call ≤ (callsN b i n).hi := by
  have hL := (hv.loan i hi).1
  constructor
  · refine st_call_mono hL (ends_small hv false true n hn) n (fun k hk => ?_) (fun k hk => ?_) ?_
    · rw [endPs_get b _ _ n k (by omega)]; unfold endRow; rw [if_neg (by omega)]; exact row_lo hv ht (by omega)
    · rw [endRs_get b _ n k hk]; exact (rate_in hv ht (by omega)).1
    · rw [endPs_get b _ _ n n (Nat.le_refl _)]; unfold endRow; rw [if_pos rfl]; exact row_hi hv ht hn
  · refine st_call_mono hL (truth_small hv ht) n (fun k hk => ?_) (fun k hk => ?_) ?_
    · rw [endPs_get b _ _ n k (by omega)]; unfold endRow; rw [if_neg (by omega)]; exact row_hi hv ht (by omega)
    · rw [endRs_get b _ n k hk]; exact (rate_in hv ht (by omega)).2
    · rw [endPs_get b _ _ n n (Nat.le_refl _)]; unfold endRow; rw [if_pos rfl]; exact row_lo hv ht hn
theorem sum_in {n k : Nat} (hk : k ≤ b.loans.length) (hn : n < b.days.length) : sumLo b n k ≤ sumI ((List.range k).map fun i => (allSt b.loans t.prices t.rates i n).call) ∧ sumI ((List.range k).map fun i => (allSt b.loans t.prices t.rates i n).call) ≤ sumHi b n k := by
  induction k with
  | zero => simp [sumLo, sumHi, sumI]
  | succ k ih =>
    have h1 := ih (by omega)
    have h2 := call_in hv ht (i := k) (by omega) hn
    rw [sumLo_succ, sumHi_succ, show (List.range (k + 1)).map (fun i => (allSt b.loans t.prices t.rates i n).call) = (List.range k).map (fun i => (allSt b.loans t.prices t.rates i n).call) ++ [_] from range_step _ k, sumI_append]
    have h3 : sumI [(allSt b.loans t.prices t.rates k n).call] = (allSt b.loans t.prices t.rates k n).call := by simp [sumI]
    omega
end
theorem some_truth0 {b : BankD} (hv : Valid b) : truthB b (pickedD b []) = true := picked_truth hv (fun x hx => by cases hx)
theorem calls_le {b : BankD} (hv : Valid b) {i n : Nat} (hi : i < b.loans.length) (hn : n < b.days.length) : (callsN b i n).lo ≤ (callsN b i n).hi := by
  have := call_in hv (some_truth0 hv) hi hn; omega
theorem debts_le {b : BankD} (hv : Valid b) {i n : Nat} (hi : i < b.loans.length) (hn : n < b.days.length) : (debtsN b i n).lo ≤ (debtsN b i n).hi := by
  have := debt_in hv (some_truth0 hv) hi hn; omega
theorem sure_mem {b : BankD} {n k i : Nat} (hi : i < k) : ((i : Int) ∈ sureN b n k) ↔ 0 < (callsN b i n).lo := by
  simp only [sureN, List.mem_map, List.mem_filter, List.mem_range, decide_eq_true_eq]
  exact ⟨fun ⟨j, ⟨_, h⟩, e⟩ => by have : j = i := by omega
                                  subst this; exact h, fun h => ⟨i, ⟨hi, h⟩, rfl⟩⟩
theorem may_mem {b : BankD} {n k i : Nat} (hi : i < k) : ((i : Int) ∈ mayN b n k) ↔ 0 < (callsN b i n).hi := by
  simp only [mayN, List.mem_map, List.mem_filter, List.mem_range, decide_eq_true_eq]
  exact ⟨fun ⟨j, ⟨_, h⟩, e⟩ => by have : j = i := by omega
                                  subst this; exact h, fun h => ⟨i, ⟨hi, h⟩, rfl⟩⟩
end Go.Proofs.Ytfiacjdkdjkiiaa
