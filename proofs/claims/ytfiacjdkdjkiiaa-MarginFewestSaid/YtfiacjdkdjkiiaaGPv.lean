/- Joined texts: Pl, Pv. -/
import Derived.Test.YtfiacjdkdjkiiaaGBs
import Derived.Test.YtfiacjdkdjkiiaaMg
section
namespace Go.Proofs.Ytfiacjdkdjkiiaa
open Go Go.RowKit Go.Tl
set_option linter.unusedVariables false
def freeD (free : Bool) (d : DayD) : DayD := if free then ⟨d.prices, ⟨0, 0⟩⟩ else d
def freeB (free : Bool) (b : BankD) : BankD := ⟨b.stocks, b.days.map (freeD free), b.loans⟩
theorem freeD_ok {free : Bool} {s : Int} {d : DayD} (h : dayB s d = true) : dayB s (freeD free d) = true := by
  cases free
  · exact h
  · simp only [dayB, Bool.and_eq_true] at h ⊢
    exact ⟨⟨h.1.1, (by decide : rngB ⟨0, 0⟩ 100 = true)⟩, h.2⟩
theorem freeB_fault {free : Bool} {b : BankD} (h : faultN b = 0) : faultN (freeB free b) = 0 := by
  unfold faultN at h ⊢
  have e : greatB (freeB free b) = greatB b := by simp only [greatB, freeB, List.length_map]; rfl
  rw [e]
  split at h
  · omega
  · rename_i hg
    split at h
    · rename_i hb
      have hb' : bankB (freeB free b) = true := by
        simp only [bankB, freeB, Bool.and_eq_true] at hb ⊢
        refine ⟨⟨⟨hb.1.1.1, by simpa using hb.1.1.2⟩, ?_⟩, hb.2⟩
        refine List.all_eq_true.2 fun x hx => ?_
        obtain ⟨d, hd, rfl⟩ := List.mem_map.1 hx
        exact freeD_ok (List.all_eq_true.1 hb.1.2 d hd)
      rw [if_neg hg, if_pos hb']
    · omega
theorem freeB_short {free : Bool} {b : BankD} (h : Short b) : Short (freeB free b) := by
  obtain ⟨h1, h2, h3, h4⟩ := h
  refine ⟨fun k hk => ?_, h2, by simpa [freeB] using h3, h4⟩
  have hk' : k < b.days.length := by simpa [freeB] using hk
  have e : (freeB free b).days.getD k default = freeD free (b.days.getD k default) := by simp [freeB, List.getD_eq_getElem?_getD, hk']
  rw [e]
  have := h1 k hk'
  cases free <;> exact this
theorem freeB_day {free : Bool} {b : BankD} {k : Nat} (hk : k < b.days.length) : (freeB free b).days.getD k default = freeD free (b.days.getD k default) := by simp [freeB, List.getD_eq_getElem?_getD, hk]
theorem free_rate {b : BankD} {ws : List Int} (hw : Words ws) {k : Nat} (hk : k < b.days.length) : (pickedD (freeB true b) ws).rates.getD k 0 = 0 := by
  rw [picked_rate (by simpa [freeB] using hk), freeB_day hk]
  obtain ⟨h1, h2⟩ := pick_in (r := ⟨0, 0⟩) (n := wordN ws (5 * k)) (by decide) (word_in hw _ (by omega)).1
  exact Int.le_antisymm h2 h1
theorem play_ok {b : BankD} {t : TruthD} (h : faultN b = 0) (ht : truthB b t = true) : playA b t = .tup [.t (rowsT false (debtsP b t b.loans.length)), .t (rowsT false (callsP b t b.loans.length)), intA 0] := by
  unfold playA
  simp only [h, ht, ne_eq, not_true_eq_false, if_false, Bool.true_eq_false]
theorem play_w {cp : Bool} {b : BankD} {t : TruthD} (hS : Short b) (h : faultN b = 0) (ht : truthB b t = true) : PCall Try.prog 19 [bankA cp b, truthA t] (fun r => r = .tup [.t (rowsT false (debtsP b t b.loans.length)), .t (rowsT false (callsP b t b.loans.length)), intA 0]) := by
  obtain ⟨l1, l2⟩ := truthB_len ht
  have hv := valid_of h
  have hd := hv.days
  have hs := hv.st
  rw [← play_ok h ht]
  exact play_p cp b t hS (by omega) (by omega) (fun k hk => by have := (truthB_day ht (k := k) (by omega)).1; omega)
theorem debts_at {b : BankD} {t : TruthD} {i n : Nat} (hi : i < b.loans.length) (hn : n < b.days.length) : ((debtsP b t b.loans.length).getD i []).getD n 0 = (allSt b.loans t.prices t.rates i n).after := by
  rw [show (debtsP b t b.loans.length).getD i [] = debtsR b t i b.days.length from range_getD hi]; exact range_getD hn
theorem calls_at {b : BankD} {t : TruthD} {i n : Nat} (hi : i < b.loans.length) (hn : n < b.days.length) : ((callsP b t b.loans.length).getD i []).getD n 0 = (allSt b.loans t.prices t.rates i n).call := by
  rw [show (callsP b t b.loans.length).getD i [] = callsR b t i b.days.length from range_getD hi]; exact range_getD hn
theorem calls_row {b : BankD} {t : TruthD} {i : Nat} (hi : i < b.loans.length) : (callsP b t b.loans.length).getD i [] = callsR b t i b.days.length := range_getD hi
theorem debts_row {b : BankD} {t : TruthD} {i : Nat} (hi : i < b.loans.length) : (debtsP b t b.loans.length).getD i [] = debtsR b t i b.days.length := range_getD hi
theorem calls_len {b : BankD} {t : TruthD} {i : Nat} (hi : i < b.loans.length) : ((callsP b t b.loans.length).getD i []).length = b.days.length := by rw [calls_row hi]; simp [callsR]
theorem debts_len {b : BankD} {t : TruthD} {i : Nat} (hi : i < b.loans.length) : ((debtsP b t b.loans.length).getD i []).length = b.days.length := by rw [debts_row hi]; simp [debtsR]
theorem callsR_sum {b : BankD} {t : TruthD} {i n : Nat} : sumI (callsR b t i (n + 1)) = sumI (callsR b t i n) + (allSt b.loans t.prices t.rates i n).call := by
  rw [show callsR b t i (n + 1) = callsR b t i n ++ [_] from range_step _ n, sumI_append]
  simp [sumI]
end Go.Proofs.Ytfiacjdkdjkiiaa
end
section
namespace Go.Proofs.Ytfiacjdkdjkiiaa
open Go Go.RowKit Go.Tl
set_option linter.unusedVariables false
set_option linter.unusedSectionVars false
def pr2 (t : TruthD) (i s : Nat) : Int := (t.prices.getD i []).getD s 0
def maxRow (t o : TruthD) (i k : Nat) : List Int := (List.range k).map fun s => max (pr2 t i s) (pr2 o i s)
def someRow (t o : TruthD) (n i k : Nat) : List Int := (List.range k).map fun s => if i = n then max (pr2 t i s) (pr2 o i s) else pr2 t i s
def maxPs (t o : TruthD) (st m : Nat) : List (List Int) := (List.range m).map fun i => maxRow t o i st
def somePs (t o : TruthD) (n st m : Nat) : List (List Int) := (List.range m).map fun i => someRow t o n i st
def maxRs (t o : TruthD) (m : Nat) : List Int := (List.range m).map fun i => max (t.rates.getD i 0) (o.rates.getD i 0)
def cpRs (t : TruthD) (m : Nat) : List Int := (List.range m).map fun i => t.rates.getD i 0
def maxD (b : BankD) (t o : TruthD) : TruthD := ⟨maxPs t o b.stocks.toNat b.days.length, maxRs t o b.days.length⟩
def someD (b : BankD) (t o : TruthD) (n : Nat) : TruthD := ⟨somePs t o n b.stocks.toNat b.days.length, cpRs t b.days.length⟩
section
variable {b : BankD} {t o : TruthD} (hv : Valid b) (ht : truthB b t = true) (ho : truthB b o = true)
include hv ht ho
theorem max_truth : truthB b (maxD b t o) = true := by
  have hst := hv.st
  refine truthB_mk hv (by simp [maxD, maxPs]) (by simp [maxD, maxRs]) (fun k hk => ?_) (fun k hk => ?_) (fun k hk j hj => ?_)
  · rw [show (maxD b t o).prices.getD k [] = maxRow t o k b.stocks.toNat from range_getD hk]; simp [maxRow]
  · rw [show (maxD b t o).rates.getD k 0 = max (t.rates.getD k 0) (o.rates.getD k 0) from range_getD hk]
    have h1 := inB_iff.1 (truthB_day ht hk).2.1
    have h2 := inB_iff.1 (truthB_day ho hk).2.1
    exact inB_iff.2 (by omega)
  · rw [show (maxD b t o).prices.getD k [] = maxRow t o k b.stocks.toNat from range_getD hk, show (maxRow t o k b.stocks.toNat).getD j 0 = max (pr2 t k j) (pr2 o k j) from range_getD hj]
    have hpl := hv.plen k hk
    have h1 := inB_iff.1 ((truthB_day ht hk).2.2 j (by omega))
    have h2 := inB_iff.1 ((truthB_day ho hk).2.2 j (by omega))
    exact inB_iff.2 (by unfold pr2; omega)
theorem some_truth {n : Nat} : truthB b (someD b t o n) = true := by
  have hst := hv.st
  refine truthB_mk hv (by simp [someD, somePs]) (by simp [someD, cpRs]) (fun k hk => ?_) (fun k hk => ?_) (fun k hk j hj => ?_)
  · rw [show (someD b t o n).prices.getD k [] = someRow t o n k b.stocks.toNat from range_getD hk]; simp [someRow]
  · rw [show (someD b t o n).rates.getD k 0 = t.rates.getD k 0 from range_getD hk]
    exact (truthB_day ht hk).2.1
  · rw [show (someD b t o n).prices.getD k [] = someRow t o n k b.stocks.toNat from range_getD hk, show (someRow t o n k b.stocks.toNat).getD j 0 = if k = n then max (pr2 t k j) (pr2 o k j) else pr2 t k j from range_getD hj]
    have hpl := hv.plen k hk
    have h1 := inB_iff.1 ((truthB_day ht hk).2.2 j (by omega))
    have h2 := inB_iff.1 ((truthB_day ho hk).2.2 j (by omega))
    refine inB_iff.2 ?_
    split <;> (unfold pr2; omega)
theorem max_debt {i k : Nat} (hi : i < b.loans.length) (hk : k < b.days.length) : (allSt b.loans t.prices t.rates i k).after ≤ (allSt b.loans (maxD b t o).prices (maxD b t o).rates i k).after := by
  have hst := hv.st
  refine st_mono (hv.loan i hi).1 (truth_small hv ht) k ⟨fun q hq => ?_, fun q hq => ?_⟩
  · rw [show (maxD b t o).prices.getD q [] = maxRow t o q b.stocks.toNat from range_getD (by omega)]
    have h1 := (truthB_day ht (show q < b.days.length by omega)).1
    have hlen : (maxRow t o q b.stocks.toNat).length = b.stocks.toNat := by simp [maxRow]
    refine LeL_of_getD (by rw [hlen]; omega) fun j hj => ?_
    rw [show (maxRow t o q b.stocks.toNat).getD j 0 = max (pr2 t q j) (pr2 o q j) from range_getD (by omega)]
    unfold pr2; omega
  · rw [show (maxD b t o).rates.getD q 0 = max (t.rates.getD q 0) (o.rates.getD q 0) from range_getD (by omega)]
    omega
theorem some_call {i n : Nat} (hi : i < b.loans.length) (hn : n < b.days.length) : (allSt b.loans (someD b t o n).prices (someD b t o n).rates i n).call ≤ (allSt b.loans t.prices t.rates i n).call := by
  have hst := hv.st
  have hrow : ∀ q, q < b.days.length → (someD b t o n).prices.getD q [] = someRow t o n q b.stocks.toNat := fun q hq => range_getD hq
  have hlen : ∀ q, (someRow t o n q b.stocks.toNat).length = b.stocks.toNat := fun q => by simp [someRow]
  refine st_call_mono (hv.loan i hi).1 (truth_small hv (some_truth hv ht ho)) n (fun q hq => ?_) (fun q hq => ?_) ?_
  · rw [hrow q (by omega)]
    have h1 := (truthB_day ht (show q < b.days.length by omega)).1
    refine LeL_of_getD (by rw [hlen]; omega) fun j hj => ?_
    rw [hlen] at hj
    rw [show (someRow t o n q b.stocks.toNat).getD j 0 = if q = n then max (pr2 t q j) (pr2 o q j) else pr2 t q j from range_getD hj, if_neg (by omega)]
    exact Int.le_refl _
  · rw [show (someD b t o n).rates.getD q 0 = t.rates.getD q 0 from range_getD (by omega)]
    exact Int.le_refl _
  · rw [hrow n hn]
    have h1 := (truthB_day ht hn).1
    refine LeL_of_getD (by rw [hlen]; omega) fun j hj => ?_
    rw [show (someRow t o n n b.stocks.toNat).getD j 0 = if n = n then max (pr2 t n j) (pr2 o n j) else pr2 t n j from range_getD (by omega), if_pos rfl]
    unfold pr2; omega
end
end Go.Proofs.Ytfiacjdkdjkiiaa
end
