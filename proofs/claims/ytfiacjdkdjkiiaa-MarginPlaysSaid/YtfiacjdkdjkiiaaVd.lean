/- Valid banks; the states of all loans. No program in sight. -/
import Derived.Test.YtfiacjdkdjkiiaaBase
import Derived.Test.YtfiacjdkdjkiiaaPlain
namespace Go.Proofs.Ytfiacjdkdjkiiaa
open Go.RowKit
set_option linter.unusedVariables false
set_option linter.unusedSimpArgs false
structure Valid (b : BankD) : Prop where
  st : 1 ≤ b.stocks ∧ b.stocks ≤ 4
  days : 1 ≤ b.days.length ∧ b.days.length ≤ 4
  loans : b.loans.length ≤ 4
  plen : ∀ i, i < b.days.length → ((b.days.getD i default).prices.length : Int) = b.stocks
  price : ∀ i, i < b.days.length → ∀ k, k < (b.days.getD i default).prices.length → 0 ≤ ((b.days.getD i default).prices.getD k default).lo ∧ ((b.days.getD i default).prices.getD k default).lo ≤ ((b.days.getD i default).prices.getD k default).hi ∧ ((b.days.getD i default).prices.getD k default).hi ≤ 1000
  rate : ∀ i, i < b.days.length → 0 ≤ (b.days.getD i default).rate.lo ∧ (b.days.getD i default).rate.lo ≤ (b.days.getD i default).rate.hi ∧ (b.days.getD i default).rate.hi ≤ 100
  loan : ∀ i, i < b.loans.length → SmallL (b.loans.getD i default) ∧ ((b.loans.getD i default).shares.length : Int) = b.stocks
theorem mem_getD {α : Type} {l : List α} {x d : α} (h : x ∈ l) : ∃ k, k < l.length ∧ l.getD k d = x := by
  obtain ⟨k, hk, rfl⟩ := List.getElem_of_mem h
  exact ⟨k, hk, by simp [List.getD_eq_getElem?_getD, hk]⟩
theorem valid_of {b : BankD} (h : faultN b = 0) : Valid b := by
  unfold faultN at h
  split at h
  · omega
  · rename_i hg
    split at h
    · rename_i hb
      simp only [greatB, Bool.or_eq_true, decide_eq_true_eq, not_or] at hg
      simp only [bankB, Bool.and_eq_true, decide_eq_true_eq] at hb
      obtain ⟨⟨⟨h1, h2⟩, h3⟩, h4⟩ := hb
      have hd := (all_getD (d := (default : DayD))).1 h3
      have hl := (all_getD (d := (default : LoanD))).1 h4
      have h2' : 1 ≤ b.days.length := by
        cases e : b.days with
        | nil => rw [e] at h2; simp at h2
        | cons => simp
      refine ⟨⟨h1, by omega⟩, ⟨h2', by omega⟩, by omega, fun i hi => ?_, fun i hi k hk => ?_, fun i hi => ?_, fun i hi => ?_⟩
      · have := hd i hi
        simp only [dayB, Bool.and_eq_true, decide_eq_true_eq] at this
        exact this.1.1
      · have := hd i hi
        simp only [dayB, Bool.and_eq_true] at this
        have h5 := (all_getD (d := (default : Rng))).1 this.2 k hk
        simp only [rngB, inB, Bool.and_eq_true, decide_eq_true_eq] at h5
        exact ⟨h5.1.1, h5.1.2, h5.2⟩
      · have := hd i hi
        simp only [dayB, Bool.and_eq_true, rngB, inB, decide_eq_true_eq] at this
        exact ⟨this.1.2.1.1, this.1.2.1.2, this.1.2.2⟩
      · have := hl i hi
        simp only [loanB, Bool.and_eq_true, inB, decide_eq_true_eq] at this
        refine ⟨⟨this.1.1.1.1, this.1.1.1.2, this.1.1.2.1, this.1.1.2.2, fun x hx => ?_⟩, this.1.2⟩
        obtain ⟨k, hk, rfl⟩ := mem_getD (d := (0 : Int)) hx
        have h5 := (all_getD (d := (0 : Int))).1 this.2 k hk
        simpa using h5
    · omega
def allSt (ls : List LoanD) (ps : List (List Int)) (rs : List Int) (i n : Nat) : St := stN (ls.getD i default) ps rs n
end Go.Proofs.Ytfiacjdkdjkiiaa
