/- Truths: what is known of them; the debts and the calls of a loan. -/
import Derived.Test.YtlpknbneilgjkaaMGBs
import Derived.Test.YtlpknbneilgjkaaMGCo
import Derived.Test.YtlpknbneilgjkaaTt
import Derived.Test.YtlpknbneilgjkaaGOb
import Derived.Test.YtlpknbneilgjkaaGPa
import Derived.Test.YtlpknbneilgjkaaGTs
import Derived.Test.YtlpknbneilgjkaaGTy
namespace Go.Proofs.Ytlpknbneilgjkaa.M
open Go Go.RowKit Go.Tl
set_option linter.unusedVariables false
set_option linter.unusedSimpArgs false
set_option maxHeartbeats 2000000
theorem truthB_len {b : BankD} {t : TruthD} (h : truthB b t = true) : t.prices.length = b.days.length ∧ t.rates.length = b.days.length := by
  simp only [truthB, Bool.and_eq_true, decide_eq_true_eq] at h
  exact h.1
theorem truthB_day {b : BankD} {t : TruthD} (h : truthB b t = true) {k : Nat} (hk : k < b.days.length) : ((t.prices.getD k []).length : Int) = b.stocks ∧ inB (t.rates.getD k 0) (b.days.getD k default).rate.lo (b.days.getD k default).rate.hi = true ∧
    ∀ j, j < (b.days.getD k default).prices.length → inB ((t.prices.getD k []).getD j 0) ((b.days.getD k default).prices.getD j default).lo ((b.days.getD k default).prices.getD j default).hi = true := by
  simp only [truthB, Bool.and_eq_true, decide_eq_true_eq] at h
  have h1 := List.all_eq_true.1 h.2 k (List.mem_range.2 hk)
  simp only [dayOkB, Bool.and_eq_true, decide_eq_true_eq] at h1
  exact ⟨h1.1.1, h1.1.2, fun j hj => List.all_eq_true.1 h1.2 j (List.mem_range.2 hj)⟩
theorem truth_small {b : BankD} {t : TruthD} (hv : Valid b) (h : truthB b t = true) : SmallT t.prices t.rates := by
  obtain ⟨l1, l2⟩ := truthB_len h
  refine ⟨fun n x hx => ?_, fun n => ?_⟩
  · rcases Nat.lt_or_ge n b.days.length with hn | hn
    · obtain ⟨e1, _, e3⟩ := truthB_day h hn
      have hp := hv.plen n hn
      obtain ⟨j, hj, rfl⟩ := mem_getD (d := 0) hx
      have h1 := inB_iff.1 (e3 j (by omega))
      have h2 := hv.price n hn j (by omega)
      omega
    · rw [List.getD_eq_getElem?_getD, List.getElem?_eq_none (by omega)] at hx
      simp at hx
  · rcases Nat.lt_or_ge n b.days.length with hn | hn
    · obtain ⟨_, e2, _⟩ := truthB_day h hn
      have h1 := inB_iff.1 e2
      have h2 := hv.rate n hn
      omega
    · rw [List.getD_eq_getElem?_getD, List.getElem?_eq_none (by omega)]
      decide
theorem truth_rows {b : BankD} {t : TruthD} (hv : Valid b) (h : truthB b t = true) {i : Nat} (hi : i < b.loans.length) : ∀ k, (b.loans.getD i default).shares.length = (t.prices.getD k []).length ∨ t.prices.length ≤ k := fun k => by
  obtain ⟨l1, l2⟩ := truthB_len h
  rcases Nat.lt_or_ge k b.days.length with hk | hk
  · have h1 := (truthB_day h hk).1
    have h2 := (hv.loan i hi).2
    exact .inl (by omega)
  · exact .inr (by omega)
def debtsR (b : BankD) (t : TruthD) (i n : Nat) : List Int := (List.range n).map fun d => (allSt b.loans t.prices t.rates i d).after
def callsR (b : BankD) (t : TruthD) (i n : Nat) : List Int := (List.range n).map fun d => (allSt b.loans t.prices t.rates i d).call
end Go.Proofs.Ytlpknbneilgjkaa.M
