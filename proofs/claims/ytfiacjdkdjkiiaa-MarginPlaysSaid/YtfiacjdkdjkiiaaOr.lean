/- Data that lie in memory, as trees: whatever lies there lies below the heap's end. -/
import Derived.Test.YtfiacjdkdjkiiaaCs
namespace Go.Proofs.Ytfiacjdkdjkiiaa
open Go Go.RowKit Go.Tl
set_option linter.unusedVariables false
section
variable {w : World}
theorem sl_in {a : Option Addr} {c sz n : Nat} {f : Nat → List Tr} (hl : ∀ k, k < n → (f k).length = sz) (hsz : 0 < sz)
    (h : ∀ k, k < n → ∃ (b off : Nat) (val : Nat → Value), a = some ⟨b, off, none⟩ ∧ (∀ j, j < sz → w.cell? ⟨b, off + k * sz + j, none⟩ = some (val j)) ∧ ∀ (j : Nat) (x : Tr), (f k)[j]? = some x → Tl.TRel w (fun b => b < w.heap.size) x (val j)) :
    Tl.TRel w (fun b => b < w.heap.size) (.sl false sz n f) (.slice a n c) := by
  have h' : ∀ k, ∃ val : Nat → Value, k < n → ∃ b off : Nat, a = some ⟨b, off, none⟩ ∧ (∀ j, j < sz → w.cell? ⟨b, off + k * sz + j, none⟩ = some (val j)) ∧ ∀ (j : Nat) (x : Tr), (f k)[j]? = some x → Tl.TRel w (fun b => b < w.heap.size) x (val j) := fun k => by
    by_cases hk : k < n
    · obtain ⟨b, off, val, h1, h2, h3⟩ := h k hk
      exact ⟨val, fun _ => ⟨b, off, h1, h2, h3⟩⟩
    · exact ⟨fun _ => undef, fun h => absurd h hk⟩
  obtain ⟨V, hV⟩ := Classical.axiomOfChoice h'
  refine .sl V (fun h => by cases h) hl (fun k hk => ?_) (fun k j x hk hx => ?_)
  · obtain ⟨b, off, h1, h2, _⟩ := hV k hk
    exact ⟨b, off, h1, World.block_lt_of_cell? _ _ (h2 0 hsz), h2⟩
  · obtain ⟨b, off, _, _, h3⟩ := hV k hk
    exact h3 j x hx
theorem ints_in {a : Option Addr} {c : Nat} {xs : List Int} (h : IntsAt w a xs) : Tl.TRel w (fun b => b < w.heap.size) (intsT false xs) (.slice a xs.length c) := by
  refine sl_in (fun _ _ => rfl) (by omega) (fun k hk => ?_)
  obtain ⟨b, off, e, hc⟩ := h k hk
  refine ⟨b, off, fun _ => .int .i64 (xs.getD k 0), e, fun j hj => ?_, fun j x hx => ?_⟩
  · obtain rfl : j = 0 := by omega
    simpa using hc
  · match j with
    | 0 => simp at hx; subst hx; exact .sc _
    | j + 1 => simp at hx
theorem rngs_in {a : Option Addr} {c : Nat} {xs : List Rng} (h : RngsAt w a xs) : Tl.TRel w (fun b => b < w.heap.size) (rngsT false xs) (.slice a xs.length c) := by
  refine sl_in (fun _ _ => rfl) (by omega) (fun k hk => ?_)
  obtain ⟨b, off, e, h0, h1⟩ := h k hk
  refine ⟨b, off, fun j => if j = 0 then .int .i64 (xs.getD k default).lo else .int .i64 (xs.getD k default).hi, e, fun j hj => ?_, fun j x hx => ?_⟩
  · rcases (show j = 0 ∨ j = 1 by omega) with rfl | rfl
    · simpa using h0
    · simpa using h1
  · match j with
    | 0 => simp [rngL] at hx; subst hx; exact .sc _
    | 1 => simp [rngL] at hx; subst hx; exact .sc _
    | j + 2 => simp [rngL] at hx
theorem rows_in {a : Option Addr} {c : Nat} {xs : List (List Int)} (h : RowsAt w a xs) : Tl.TRel w (fun b => b < w.heap.size) (rowsT false xs) (.slice a xs.length c) := by
  refine sl_in (fun _ _ => rfl) (by omega) (fun k hk => ?_)
  obtain ⟨b, off, pa, pc, e, h0, h1⟩ := h k hk
  refine ⟨b, off, fun _ => .slice pa (xs.getD k []).length pc, e, fun j hj => ?_, fun j x hx => ?_⟩
  · obtain rfl : j = 0 := by omega
    simpa using h0
  · match j with
    | 0 => simp at hx; subst hx; exact ints_in h1
    | j + 1 => simp at hx
theorem days_in {a : Option Addr} {c : Nat} {xs : List DayD} (h : DaysAt w a xs) : Tl.TRel w (fun b => b < w.heap.size) (daysT false xs) (.slice a xs.length c) := by
  refine sl_in (fun _ _ => rfl) (by omega) (fun k hk => ?_)
  obtain ⟨b, off, pa, pc, e, h0, h1, h2, h3⟩ := h k hk
  refine ⟨b, off, fun j => if j = 0 then .slice pa (xs.getD k default).prices.length pc else if j = 1 then .int .i64 (xs.getD k default).rate.lo else .int .i64 (xs.getD k default).rate.hi, e, fun j hj => ?_, fun j x hx => ?_⟩
  · rcases (show j = 0 ∨ j = 1 ∨ j = 2 by omega) with rfl | rfl | rfl
    · simpa using h0
    · simpa using h1
    · simpa using h2
  · match j with
    | 0 => simp [dayL] at hx; subst hx; exact rngs_in h3
    | 1 => simp [dayL] at hx; subst hx; exact .sc _
    | 2 => simp [dayL] at hx; subst hx; exact .sc _
    | j + 3 => simp [dayL] at hx
theorem loans_in {a : Option Addr} {c : Nat} {xs : List LoanD} (h : LoansAt w a xs) : Tl.TRel w (fun b => b < w.heap.size) (loansT false xs) (.slice a xs.length c) := by
  refine sl_in (fun _ _ => rfl) (by omega) (fun k hk => ?_)
  obtain ⟨b, off, pa, pc, e, h0, h1, h2, h3⟩ := h k hk
  refine ⟨b, off, fun j => if j = 0 then .int .i64 (xs.getD k default).money else if j = 1 then .int .i64 (xs.getD k default).margin else .slice pa (xs.getD k default).shares.length pc, e, fun j hj => ?_, fun j x hx => ?_⟩
  · rcases (show j = 0 ∨ j = 1 ∨ j = 2 by omega) with rfl | rfl | rfl
    · simpa using h0
    · simpa using h1
    · simpa using h2
  · match j with
    | 0 => simp [loanL] at hx; subst hx; exact .sc _
    | 1 => simp [loanL] at hx; subst hx; exact .sc _
    | 2 => simp [loanL] at hx; subst hx; exact ints_in h3
    | j + 3 => simp [loanL] at hx
theorem rels_cons {S : Nat → Prop} {x : AV} {v : Value} {xs : List AV} {vs : List Value} (h : VRel w S x v) (hs : VRels w S xs vs) : VRels w S (x :: xs) (v :: vs) :=
  ⟨by simp [hs.1], fun j a b ha hb => by
    cases j with
    | zero => simp at ha hb; subst ha; subst hb; exact h
    | succ j => exact hs.2 j a b (by simpa using ha) (by simpa using hb)⟩
theorem rels_nil {S : Nat → Prop} : VRels w S [] [] := ⟨rfl, fun j x y h => by simp at h⟩
theorem ag_rel {S : Nat → Prop} {cs : List AV} {vs : List Value} (h : VRels w S cs vs) : VRel w S (.ag cs) (.agg vs.toArray) := .ag h.1 h.2
theorem bank_in {da la : Option Addr} {dc lc : Nat} {b : BankD} (h : BankAt w da la b) : VRel w (fun b => b < w.heap.size) (bankA false b) (.agg #[.int .i64 b.stocks, .slice da b.days.length dc, .slice la b.loans.length lc]) :=
  ag_rel (vs := [_, _, _]) (rels_cons (.v _) (rels_cons (.t (days_in h.1)) (rels_cons (.t (loans_in h.2)) rels_nil)))
theorem truth_in {pa ra : Option Addr} {pc rc : Nat} {t : TruthD} (h : TruthAt w pa ra t) : VRel w (fun b => b < w.heap.size) (truthA t) (.agg #[.slice pa t.prices.length pc, .slice ra t.rates.length rc]) :=
  ag_rel (vs := [_, _]) (rels_cons (.t (rows_in h.1)) (rels_cons (.t (ints_in h.2)) rels_nil))
end
theorem pcall_calls {P : Program} {f : Nat} {args : List AV} {R : AV → Prop} (h : PCall P f args R) {w : World} {vs : List Value} (hv : VRels w (fun b => b < w.heap.size) args vs) {v : Value} (hR : ∀ r, R r → r = .v v) :
    Calls P f vs.toArray w fun e w' => e = .returned v ∧ Below w.heap.size w w' :=
  (h w _ vs (fun _ h => h) HRel.nil hv).mono fun e w' ⟨u, S', r, h', e1, ⟨hr, _⟩, hvr, hx, _⟩ => by
    have := hR r hr
    subst this
    rw [hvr.lit_inv] at e1
    exact ⟨e1, hx.os, hx.tape, hx.output, hx.size, fun b hb => hx.keep b hb (fun ⟨e, he, _⟩ => by cases he)⟩
end Go.Proofs.Ytfiacjdkdjkiiaa
