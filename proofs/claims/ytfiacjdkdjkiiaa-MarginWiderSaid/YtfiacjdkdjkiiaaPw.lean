/- A bank with wider ranges: its truths, and its bounds. No program in sight. -/
import Derived.Test.YtfiacjdkdjkiiaaPy
namespace Go.Proofs.Ytfiacjdkdjkiiaa
open Go Go.RowKit Go.Tl
set_option linter.unusedVariables false
set_option linter.unusedSectionVars false
def widR (by' : Int) (r : Rng) : Rng := ⟨max 0 (r.lo - by'.tmod 7), min 1000 (r.hi + (by'.tdiv 7).tmod 7)⟩
def widQ (by' : Int) (r : Rng) : Rng := ⟨max 0 (r.lo - (by'.tdiv 49).tmod 3), min 100 (r.hi + by'.tmod 3)⟩
def widD (by' : Int) (s : Nat) (d : DayD) : DayD := ⟨d.prices.set s (widR by' (d.prices.getD s default)), widQ by' d.rate⟩
def widB (by' : Int) (s n : Nat) (b : BankD) : BankD := ⟨b.stocks, b.days.set n (widD by' s (b.days.getD n default)), b.loans⟩
theorem getD_set {α : Type} {l : List α} {a d : α} {n k : Nat} (hk : k < l.length) : (l.set n a).getD k d = if k = n then a else l.getD k d := by
  simp only [List.getD_eq_getElem?_getD, List.getElem?_set]
  by_cases e : n = k
  · subst e; simp [hk]
  · rw [if_neg e, if_neg (fun h => e h.symm)]
section
variable {b : BankD} {by' : Int} {s n : Nat} (h0 : 0 ≤ by') (hv : Valid b) (hn : n < b.days.length) (hs : s < b.stocks.toNat)
include h0
theorem tm (a c : Int) (ha : 0 ≤ a) (hc : 0 < c) : 0 ≤ a.tmod c ∧ a.tmod c < c := ⟨Int.tmod_nonneg c ha, Int.tmod_lt_of_pos a hc⟩
theorem wid_R {r : Rng} (hr : 0 ≤ r.lo ∧ r.lo ≤ r.hi ∧ r.hi ≤ 1000) : 0 ≤ (widR by' r).lo ∧ (widR by' r).lo ≤ r.lo ∧ r.hi ≤ (widR by' r).hi ∧ (widR by' r).hi ≤ 1000 := by
  have h1 := tm h0 by' 7 h0 (by decide)
  have h2 := tm h0 (by'.tdiv 7) 7 (Int.tdiv_nonneg h0 (by decide)) (by decide)
  simp only [widR]; omega
theorem wid_Q {r : Rng} (hr : 0 ≤ r.lo ∧ r.lo ≤ r.hi ∧ r.hi ≤ 100) : 0 ≤ (widQ by' r).lo ∧ (widQ by' r).lo ≤ r.lo ∧ r.hi ≤ (widQ by' r).hi ∧ (widQ by' r).hi ≤ 100 := by
  have h1 := tm h0 by' 3 h0 (by decide)
  have h2 := tm h0 (by'.tdiv 49) 3 (Int.tdiv_nonneg h0 (by decide)) (by decide)
  simp only [widQ]; omega
include hv hn
theorem wid_day {k : Nat} (hk : k < b.days.length) : (widB by' s n b).days.getD k default = if k = n then widD by' s (b.days.getD n default) else b.days.getD k default := getD_set hk
theorem wid_plen {k : Nat} (hk : k < b.days.length) : ((widB by' s n b).days.getD k default).prices.length = (b.days.getD k default).prices.length := by
  rw [wid_day h0 hv hn hk]
  by_cases e : k = n
  · subst e; rw [if_pos rfl]; simp [widD]
  · rw [if_neg e]
theorem wid_price {k j : Nat} (hk : k < b.days.length) (hj : j < (b.days.getD k default).prices.length) :
    0 ≤ (((widB by' s n b).days.getD k default).prices.getD j default).lo ∧ (((widB by' s n b).days.getD k default).prices.getD j default).lo ≤ ((b.days.getD k default).prices.getD j default).lo ∧
    ((b.days.getD k default).prices.getD j default).hi ≤ (((widB by' s n b).days.getD k default).prices.getD j default).hi ∧ (((widB by' s n b).days.getD k default).prices.getD j default).hi ≤ 1000 := by
  have hp := hv.price k hk j hj
  rw [wid_day h0 hv hn hk]
  by_cases e : k = n
  · subst e
    rw [if_pos rfl]
    show 0 ≤ (((b.days.getD k default).prices.set s (widR by' ((b.days.getD k default).prices.getD s default))).getD j default).lo ∧ _
    simp only [widD]
    rw [getD_set hj]
    by_cases e2 : j = s
    · subst e2; rw [if_pos rfl]; exact wid_R h0 hp
    · rw [if_neg e2]; omega
  · rw [if_neg e]; omega
theorem wid_rate {k : Nat} (hk : k < b.days.length) : 0 ≤ ((widB by' s n b).days.getD k default).rate.lo ∧ ((widB by' s n b).days.getD k default).rate.lo ≤ (b.days.getD k default).rate.lo ∧
    (b.days.getD k default).rate.hi ≤ ((widB by' s n b).days.getD k default).rate.hi ∧ ((widB by' s n b).days.getD k default).rate.hi ≤ 100 := by
  have hp := hv.rate k hk
  rw [wid_day h0 hv hn hk]
  by_cases e : k = n
  · subst e; rw [if_pos rfl]; exact wid_Q h0 hp
  · rw [if_neg e]; omega
theorem wid_len : (widB by' s n b).days.length = b.days.length := by simp [widB]
theorem wid_fault (hf : faultN b = 0) : faultN (widB by' s n b) = 0 := by
  have hl := wid_len (s := s) h0 hv hn
  have hst := hv.st
  have hd := hv.days
  have hlo := hv.loans
  unfold faultN at hf ⊢
  have e : greatB (widB by' s n b) = greatB b := by simp only [greatB, hl]; rfl
  rw [e]
  split at hf
  · omega
  · rename_i hg
    split at hf
    · rename_i hb
      rw [if_neg hg, if_pos]
      simp only [bankB, Bool.and_eq_true] at hb
      refine bankB_ok hst.1 (by omega) (fun k hk => ?_) (fun k hk => (all_getD (d := default)).1 hb.2 k hk)
      rw [hl] at hk
      have hpl := hv.plen k hk
      have hrt := hv.rate k hk
      have h1 := wid_plen (s := s) h0 hv hn hk
      have h2 := wid_rate (s := s) h0 hv hn hk
      refine dayB_ok (by rw [h1]; exact hpl) (inB_iff.2 (by omega)) (by omega) fun j hj => ?_
      rw [h1] at hj
      have h3 := wid_price (s := s) h0 hv hn hk hj
      have h4 := hv.price k hk j hj
      exact rngB_ok (inB_iff.2 (by omega)) (by omega)
    · omega
theorem wid_truth {t : TruthD} (hf : faultN b = 0) (ht : truthB b t = true) : truthB (widB by' s n b) t = true := by
  obtain ⟨l1, l2⟩ := truthB_len ht
  have hl := wid_len (s := s) h0 hv hn
  have hst := hv.st
  refine truthB_mk (valid_of (wid_fault h0 hv hn hf)) (by omega) (by omega) (fun k hk => ?_) (fun k hk => ?_) (fun k hk j hj => ?_)
  · rw [hl] at hk
    have := (truthB_day ht hk).1
    show _ = b.stocks.toNat
    omega
  · rw [hl] at hk
    have h1 := inB_iff.1 (truthB_day ht hk).2.1
    have h2 := wid_rate (s := s) h0 hv hn hk
    exact inB_iff.2 (by omega)
  · rw [hl] at hk
    have hpl := hv.plen k hk
    have hj' : j < (b.days.getD k default).prices.length := by
      have : j < b.stocks.toNat := hj
      omega
    have h1 := inB_iff.1 ((truthB_day ht hk).2.2 j hj')
    have h2 := wid_price (s := s) h0 hv hn hk hj'
    exact inB_iff.2 (by omega)
theorem wid_debts (hf : faultN b = 0) {i k : Nat} (hi : i < b.loans.length) (hk : k < b.days.length) : (debtsN (widB by' s n b) i k).lo ≤ (debtsN b i k).lo ∧ (debtsN b i k).hi ≤ (debtsN (widB by' s n b) i k).hi := by
  have hv' := valid_of (wid_fault (s := s) h0 hv hn hf)
  have hl := wid_len (s := s) h0 hv hn
  have h1 := debt_in hv' (wid_truth (s := s) h0 hv hn hf (ends_truth hv false false k)) (i := i) (n := k) hi (by omega)
  have h2 := debt_in hv' (wid_truth (s := s) h0 hv hn hf (ends_truth hv true true k)) (i := i) (n := k) hi (by omega)
  have e1 := ends_st hv false false (i := i) hk
  have e2 := ends_st hv true true (i := i) hk
  have e3 : (debtsN b i k).lo = (endSt b false false i k).after := rfl
  have e4 : (debtsN b i k).hi = (endSt b true true i k).after := rfl
  rw [e3, e4, ← e1, ← e2]
  exact ⟨h1.1, h2.2⟩
theorem wid_calls (hf : faultN b = 0) {i k : Nat} (hi : i < b.loans.length) (hk : k < b.days.length) : (callsN (widB by' s n b) i k).lo ≤ (callsN b i k).lo ∧ (callsN b i k).hi ≤ (callsN (widB by' s n b) i k).hi := by
  have hv' := valid_of (wid_fault (s := s) h0 hv hn hf)
  have hl := wid_len (s := s) h0 hv hn
  have h1 := call_in hv' (wid_truth (s := s) h0 hv hn hf (ends_truth hv false true k)) (i := i) (n := k) hi (by omega)
  have h2 := call_in hv' (wid_truth (s := s) h0 hv hn hf (ends_truth hv true false k)) (i := i) (n := k) hi (by omega)
  have e1 := ends_st hv false true (i := i) hk
  have e2 := ends_st hv true false (i := i) hk
  have e3 : (callsN b i k).lo = (endSt b false true i k).call := rfl
  have e4 : (callsN b i k).hi = (endSt b true false i k).call := rfl
  rw [e3, e4, ← e1, ← e2]
  exact ⟨h1.1, h2.2⟩
theorem wid_sums (hf : faultN b = 0) {k q : Nat} (hq : q ≤ b.loans.length) (hk : k < b.days.length) : sumLo (widB by' s n b) k q ≤ sumLo b k q ∧ sumHi b k q ≤ sumHi (widB by' s n b) k q := by
  induction q with
  | zero => simp [sumLo, sumHi, sumI]
  | succ q ih =>
    have h1 := ih (by omega)
    have h2 := wid_calls (s := s) h0 hv hn hf (i := q) (by omega) hk
    rw [sumLo_succ, sumLo_succ, sumHi_succ, sumHi_succ]
    omega
end
end Go.Proofs.Ytfiacjdkdjkiiaa
