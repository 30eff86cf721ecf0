/- Bounds, Total, Odd and calls as calls over trees. -/
import Derived.Test.YtfiacjdkdjkiiaaGCo
import Derived.Test.YtfiacjdkdjkiiaaW19
namespace Go.Proofs.Ytfiacjdkdjkiiaa
open Go Go.RowKit Go.Tl
set_option linter.unusedVariables false
section
variable {w : World} {S : Nat → Prop}
theorem ints_rel {a : Option Addr} {c : Nat} {xs : List Int} (h : IntsAt w a xs) (hS : ∀ b off sp, a = some ⟨b, off, sp⟩ → S b) : Tl.TRel w S (intsT false xs) (.slice a xs.length c) := by
  refine .sl (fun k _ => .int .i64 (xs.getD k 0)) (fun h => by cases h) (fun _ _ => rfl) (fun k hk => ?_) (fun k j x hk hx => ?_)
  · obtain ⟨b, off, e, hcell⟩ := h k hk
    exact ⟨b, off, e, hS _ _ _ e, fun j hj => by obtain rfl : j = 0 := by omega
                                                 simpa using hcell⟩
  · match j with
    | 0 => simp at hx; subst hx; exact .sc _
    | j + 1 => simp at hx
theorem rngs_rel {a : Option Addr} {c : Nat} {xs : List Rng} (h : RngsAt w a xs) (hS : ∀ b off sp, a = some ⟨b, off, sp⟩ → S b) : Tl.TRel w S (rngsT false xs) (.slice a xs.length c) := by
  refine .sl (fun k j => if j = 0 then .int .i64 (xs.getD k default).lo else .int .i64 (xs.getD k default).hi) (fun h => by cases h) (fun _ _ => rfl) (fun k hk => ?_) (fun k j x hk hx => ?_)
  · obtain ⟨b, off, e, h0, h1⟩ := h k hk
    refine ⟨b, off, e, hS _ _ _ e, fun j hj => ?_⟩
    rcases (show j = 0 ∨ j = 1 by omega) with rfl | rfl
    · simpa using h0
    · simpa using h1
  · match j with
    | 0 => simp [rngL] at hx; subst hx; exact .sc _
    | 1 => simp [rngL] at hx; subst hx; exact .sc _
    | j + 2 => simp [rngL] at hx
end
theorem cell_lt {w : World} {p : Addr} {v : Value} (h : w.cell? p = some v) : p.block < w.heap.size := World.block_lt_of_cell? _ _ h
theorem rngs_fresh {w w' : World} {S : Nat → Prop} {a : Option Addr} {n c : Nat} {xs : List Rng} (h : RngsAt w' a xs) (hf : ∀ b off sp, a = some ⟨b, off, sp⟩ → w.heap.size ≤ b) (hn : xs.length = n) : VRel w' (fun b => S b ∨ (w.heap.size ≤ b ∧ b < w'.heap.size)) (.t (rngsT false xs)) (.slice a n c) := by
  subst hn
  refine .t ?_
  rcases Nat.eq_zero_or_pos xs.length with h0 | h0
  · have : xs = [] := List.length_eq_zero_iff.1 h0
    subst this
    exact .sl (fun _ _ => undef) (fun h => by cases h) (fun k hk => absurd hk (by simp)) (fun k hk => absurd hk (by simp)) (fun k j x hk => absurd hk (by simp))
  · obtain ⟨b0, off0, e0, hc0, _⟩ := h 0 h0
    exact rngs_rel h (fun b off sp e => .inr ⟨hf _ _ _ e, by rw [e0] at e; cases e; exact cell_lt hc0⟩)
theorem ints_fresh {w w' : World} {S : Nat → Prop} {a : Option Addr} {c : Nat} {xs : List Int} (h : IntsAt w' a xs) (hf : ∀ b off sp, a = some ⟨b, off, sp⟩ → w.heap.size ≤ b) : VRel w' (fun b => S b ∨ (w.heap.size ≤ b ∧ b < w'.heap.size)) (.t (intsT false xs)) (.slice a xs.length c) := by
  refine .t ?_
  rcases Nat.eq_zero_or_pos xs.length with h0 | h0
  · have : xs = [] := List.length_eq_zero_iff.1 h0
    subst this
    exact .sl (fun _ _ => undef) (fun h => by cases h) (fun k hk => absurd hk (by simp)) (fun k hk => absurd hk (by simp)) (fun k j x hk => absurd hk (by simp))
  · obtain ⟨b0, off0, e0, hc0⟩ := h 0 h0
    exact ints_rel h (fun b off sp e => .inr ⟨hf _ _ _ e, by rw [e0] at e; cases e; exact cell_lt hc0⟩)
theorem calls_p (b : BankD) (i n : Nat) (hv : Valid b) (hn : n < b.days.length) (hi : i < b.loans.length) : PCall Try.prog 66 [bankA true b, .ag [intA i, intA n]] (fun r => r = rngA (callsN b i n)) := pcall_below fun w S vs hvs => by
  obtain ⟨v, us, rfl, h1, hvs⟩ := rels1 hvs
  obtain ⟨v2, us, rfl, h2, hvs⟩ := rels1 hvs
  obtain rfl := rels0 hvs
  obtain ⟨da, dc, la, lc, rfl, hc, hB⟩ := bank_at h1
  have e2 : v2 = .agg #[.int .i64 i, .int .i64 n] := by
    obtain ⟨vs, rfl, hv⟩ := ag_inv h2
    obtain ⟨v1, us, rfl, k1, hv⟩ := rels1 hv
    obtain ⟨v2, us, rfl, k2, hv⟩ := rels1 hv
    obtain rfl := rels0 hv
    rw [k1.lit_inv, k2.lit_inv]
  subst e2
  refine (calls_any b da la dc lc i n w hv hB hn hi (hc rfl)).mono fun e w' ⟨e1, hb⟩ => ⟨_, rngA (callsN b i n), e1, rfl, hb, ?_⟩
  exact .ag (vs := [_, _]) rfl (VRels.lits [_, _]).2
theorem bounds_p (b : BankD) (i : Nat) (hS : Short b) (hf : faultN b = 0) (hi : i < b.loans.length) : PCall Try.prog 28 [bankA true b, intA i] (fun r => r = .tup [.t (rngsT false (debtsL b i)), .t (rngsT false (callsL b i)), intA 0]) := pcall_below fun w S vs hvs => by
  obtain ⟨v, us, rfl, h1, hvs⟩ := rels1 hvs
  obtain ⟨v2, us, rfl, h2, hvs⟩ := rels1 hvs
  obtain rfl := rels0 hvs
  obtain ⟨da, dc, la, lc, rfl, hc, hB⟩ := bank_at h1
  rw [h2.lit_inv]
  refine (bounds_ok b da la dc lc i w hB hS hf hi (hc rfl)).mono fun e w' ⟨a, c, a', c', e1, r1, r2, f1, f2, hb⟩ => ⟨_, _, e1, rfl, hb, ?_⟩
  exact .tup (vs := [_, _, _]) rfl ((VRels.cons (rngs_fresh r1 f1 (by simp [debtsL])) (.cons (rngs_fresh r2 f2 (by simp [callsL])) (.cons (.v _) .nil))).2)
theorem bounds_bad_p (cp : Bool) (b : BankD) (i : Int) (hS : Short b) (hf : faultN b ≠ 0) : PCall Try.prog 28 [bankA cp b, intA i] (fun r => r = .tup [noneA, noneA, intA (faultN b)]) := pcall_below fun w S vs hvs => by
  obtain ⟨v, us, rfl, h1, hvs⟩ := rels1 hvs
  obtain ⟨v2, us, rfl, h2, hvs⟩ := rels1 hvs
  obtain rfl := rels0 hvs
  obtain ⟨da, dc, la, lc, rfl, hc, hB⟩ := bank_at h1
  rw [h2.lit_inv]
  exact (bounds_bad b da la dc lc i w hB hS hf).mono fun e w' ⟨e1, hb⟩ => ⟨_, _, e1, rfl, hb, .tup (vs := [_, _, _]) rfl (VRels.lits [_, _, _]).2⟩
theorem total_p (b : BankD) (hS : Short b) (hf : faultN b = 0) : PCall Try.prog 29 [bankA true b] (fun r => r = .tup [.t (rngsT false (totalL b)), intA 0]) := pcall_below fun w S vs hvs => by
  obtain ⟨v, us, rfl, h1, hvs⟩ := rels1 hvs
  obtain rfl := rels0 hvs
  obtain ⟨da, dc, la, lc, rfl, hc, hB⟩ := bank_at h1
  refine (total_ok b da la dc lc w hB hS hf (hc rfl)).mono fun e w' ⟨a, c, e1, r1, f1, hb⟩ => ⟨_, _, e1, rfl, hb, ?_⟩
  exact .tup (vs := [_, _]) rfl ((VRels.cons (rngs_fresh r1 f1 (by simp [totalL])) (.cons (.v _) .nil)).2)
theorem total_bad_p (cp : Bool) (b : BankD) (hS : Short b) (hf : faultN b ≠ 0) : PCall Try.prog 29 [bankA cp b] (fun r => r = .tup [noneA, intA (faultN b)]) := pcall_below fun w S vs hvs => by
  obtain ⟨v, us, rfl, h1, hvs⟩ := rels1 hvs
  obtain rfl := rels0 hvs
  obtain ⟨da, dc, la, lc, rfl, hc, hB⟩ := bank_at h1
  exact (total_bad b da la dc lc w hB hS hf).mono fun e w' ⟨e1, hb⟩ => ⟨_, _, e1, rfl, hb, .tup (vs := [_, _]) rfl (VRels.lits [_, _]).2⟩
theorem bounds_range_p (cp : Bool) (b : BankD) (i : Int) (hS : Short b) (hf : faultN b = 0) (hr : inB i 0 ((b.loans.length : Int) - 1) = false) : PCall Try.prog 28 [bankA cp b, intA i] (fun r => r = .tup [noneA, noneA, intA 2]) := pcall_below fun w S vs hvs => by
  obtain ⟨v, us, rfl, h1, hvs⟩ := rels1 hvs
  obtain ⟨v2, us, rfl, h2, hvs⟩ := rels1 hvs
  obtain rfl := rels0 hvs
  obtain ⟨da, dc, la, lc, rfl, hc, hB⟩ := bank_at h1
  rw [h2.lit_inv]
  exact (bounds_range b da la dc lc i w hB hS hf hr).mono fun e w' ⟨e1, hb⟩ => ⟨_, _, e1, rfl, hb, .tup (vs := [_, _, _]) rfl (VRels.lits [_, _, _]).2⟩
end Go.Proofs.Ytfiacjdkdjkiiaa
