/- Trees of the data of banks, and contracts of before as calls over trees. -/
import Derived.Test.YtfiacjdkdjkiiaaTt
import Derived.Test.YtfiacjdkdjkiiaaTL
import Derived.Test.YtfiacjdkdjkiiaaW7
import Derived.Test.YtfiacjdkdjkiiaaW9
import Derived.Test.YtfiacjdkdjkiiaaVd
namespace Go.Proofs.Ytfiacjdkdjkiiaa
open Go Go.RowKit Go.Tl
set_option linter.unusedVariables false
def rngL (r : Rng) : List Tr := [.sc (.int .i64 r.lo), .sc (.int .i64 r.hi)]
def rngsT (cp : Bool) (rs : List Rng) : Tr := .sl cp 2 rs.length (fun k => rngL (rs.getD k default))
def rowsT (cp : Bool) (xs : List (List Int)) : Tr := .sl cp 1 xs.length (fun k => [intsT false (xs.getD k [])])
def dayL (d : DayD) : List Tr := [rngsT false d.prices, .sc (.int .i64 d.rate.lo), .sc (.int .i64 d.rate.hi)]
def daysT (cp : Bool) (ds : List DayD) : Tr := .sl cp 3 ds.length (fun k => dayL (ds.getD k default))
def loanL (l : LoanD) : List Tr := [.sc (.int .i64 l.money), .sc (.int .i64 l.margin), intsT false l.shares]
def loansT (cp : Bool) (ls : List LoanD) : Tr := .sl cp 3 ls.length (fun k => loanL (ls.getD k default))
abbrev bankA (cp : Bool) (b : BankD) : AV := .ag [intA b.stocks, .t (daysT cp b.days), .t (loansT false b.loans)]
abbrev truthA (t : TruthD) : AV := .ag [.t (rowsT false t.prices), .t (intsT false t.rates)]
abbrev rngA (r : Rng) : AV := .ag [intA r.lo, intA r.hi]
section
variable {w : World} {S : Nat → Prop}
theorem sc_inv {u v : Value} (h : Tl.TRel w S (.sc u) v) : v = u := by cases h; rfl
theorem sl_inv {cp : Bool} {sz n : Nat} {f : Nat → List Tr} {v : Value} (h : Tl.TRel w S (.sl cp sz n f) v) : ∃ (a : Option Addr) (c : Nat) (val : Nat → Nat → Value), v = .slice a n c ∧ (cp = true → n ≤ c) ∧
    ∀ k, k < n → ∃ b off, a = some ⟨b, off, none⟩ ∧ S b ∧ (∀ j, j < sz → w.cell? ⟨b, off + k * sz + j, none⟩ = some (val k j)) ∧ ∀ (j : Nat) (x : Tr), (f k)[j]? = some x → Tl.TRel w S x (val k j) := by
  cases h with
  | sl val hc hl h ih => exact ⟨_, _, val, rfl, hc, fun k hk => by obtain ⟨b, off, e, hb, hcell⟩ := h k hk; exact ⟨b, off, e, hb, hcell, fun j x hx => ih k j x hk hx⟩⟩
theorem ints_at {cp : Bool} {xs : List Int} {v : Value} (h : Tl.TRel w S (intsT cp xs) v) : ∃ a c, v = .slice a xs.length c ∧ (cp = true → xs.length ≤ c) ∧ IntsAt w a xs := by
  obtain ⟨a, c, val, rfl, hc, h⟩ := sl_inv h
  refine ⟨a, c, rfl, hc, fun k hk => ?_⟩
  obtain ⟨b, off, e, _, hcell, hr⟩ := h k hk
  refine ⟨b, off, e, ?_⟩
  rw [← sc_inv (hr 0 _ rfl)]
  simpa using hcell 0 (by omega)
theorem rngs_at {cp : Bool} {xs : List Rng} {v : Value} (h : Tl.TRel w S (rngsT cp xs) v) : ∃ a c, v = .slice a xs.length c ∧ (cp = true → xs.length ≤ c) ∧ RngsAt w a xs := by
  obtain ⟨a, c, val, rfl, hc, h⟩ := sl_inv h
  refine ⟨a, c, rfl, hc, fun k hk => ?_⟩
  obtain ⟨b, off, e, _, hcell, hr⟩ := h k hk
  refine ⟨b, off, e, ?_, ?_⟩
  · rw [← sc_inv (hr 0 _ rfl)]
    simpa using hcell 0 (by omega)
  · rw [← sc_inv (hr 1 _ rfl)]
    exact hcell 1 (by omega)
theorem rows_at {cp : Bool} {xs : List (List Int)} {v : Value} (h : Tl.TRel w S (rowsT cp xs) v) : ∃ a c, v = .slice a xs.length c ∧ (cp = true → xs.length ≤ c) ∧ RowsAt w a xs := by
  obtain ⟨a, c, val, rfl, hc, h⟩ := sl_inv h
  refine ⟨a, c, rfl, hc, fun k hk => ?_⟩
  obtain ⟨b, off, e, _, hcell, hr⟩ := h k hk
  obtain ⟨pa, pc, e1, _, hi⟩ := ints_at (hr 0 _ rfl)
  refine ⟨b, off, pa, pc, e, ?_, hi⟩
  rw [← e1]
  simpa using hcell 0 (by omega)
theorem days_at {cp : Bool} {xs : List DayD} {v : Value} (h : Tl.TRel w S (daysT cp xs) v) : ∃ a c, v = .slice a xs.length c ∧ (cp = true → xs.length ≤ c) ∧ DaysAt w a xs := by
  obtain ⟨a, c, val, rfl, hc, h⟩ := sl_inv h
  refine ⟨a, c, rfl, hc, fun k hk => ?_⟩
  obtain ⟨b, off, e, _, hcell, hr⟩ := h k hk
  obtain ⟨pa, pc, e1, _, hi⟩ := rngs_at (hr 0 _ rfl)
  refine ⟨b, off, pa, pc, e, ?_, ?_, ?_, hi⟩
  · rw [← e1]
    simpa using hcell 0 (by omega)
  · rw [← sc_inv (hr 1 _ rfl)]
    exact hcell 1 (by omega)
  · rw [← sc_inv (hr 2 _ rfl)]
    exact hcell 2 (by omega)
theorem loans_at {cp : Bool} {xs : List LoanD} {v : Value} (h : Tl.TRel w S (loansT cp xs) v) : ∃ a c, v = .slice a xs.length c ∧ (cp = true → xs.length ≤ c) ∧ LoansAt w a xs := by
  obtain ⟨a, c, val, rfl, hc, h⟩ := sl_inv h
  refine ⟨a, c, rfl, hc, fun k hk => ?_⟩
  obtain ⟨b, off, e, _, hcell, hr⟩ := h k hk
  obtain ⟨pa, pc, e1, _, hi⟩ := ints_at (hr 2 _ rfl)
  refine ⟨b, off, pa, pc, e, ?_, ?_, ?_, hi⟩
  · rw [← sc_inv (hr 0 _ rfl)]
    simpa using hcell 0 (by omega)
  · rw [← sc_inv (hr 1 _ rfl)]
    exact hcell 1 (by omega)
  · rw [← e1]
    exact hcell 2 (by omega)
theorem ag_inv {cs : List AV} {v : Value} (h : VRel w S (.ag cs) v) : ∃ vs : List Value, v = .agg vs.toArray ∧ VRels w S cs vs := by
  cases h with | ag hl h => exact ⟨_, rfl, hl, h⟩
theorem t_inv {x : Tr} {v : Value} (h : VRel w S (.t x) v) : Tl.TRel w S x v := by cases h; assumption
theorem rels1 {x : AV} {r : List AV} {vs : List Value} (h : VRels w S (x :: r) vs) : ∃ v us, vs = v :: us ∧ VRel w S x v ∧ VRels w S r us := by
  cases vs with
  | nil => have := h.1; simp at this
  | cons v us => exact ⟨v, us, rfl, h.2 0 x v rfl rfl, by have := h.1; simpa using this, fun j a b ha hb => h.2 (j + 1) a b (by simpa using ha) (by simpa using hb)⟩
theorem rels0 {vs : List Value} (h : VRels w S [] vs) : vs = [] := List.length_eq_zero_iff.1 h.1.symm
theorem bank_at {cp : Bool} {b : BankD} {v : Value} (h : VRel w S (bankA cp b) v) : ∃ da dc la lc, v = .agg #[.int .i64 b.stocks, .slice da b.days.length dc, .slice la b.loans.length lc] ∧ (cp = true → b.days.length ≤ dc) ∧ BankAt w da la b := by
  obtain ⟨vs, rfl, hv⟩ := ag_inv h
  obtain ⟨v1, us, rfl, h1, hv⟩ := rels1 hv
  obtain ⟨v2, us, rfl, h2, hv⟩ := rels1 hv
  obtain ⟨v3, us, rfl, h3, hv⟩ := rels1 hv
  obtain rfl := rels0 hv
  obtain ⟨da, dc, rfl, hc, hd⟩ := days_at (t_inv h2)
  obtain ⟨la, lc, rfl, _, hl⟩ := loans_at (t_inv h3)
  rw [h1.lit_inv]
  exact ⟨da, dc, la, lc, rfl, hc, hd, hl⟩
end
theorem pcall_below {P : Program} {f : Nat} {args : List AV} {R : AV → Prop}
    (h : ∀ (w : World) (S : Nat → Prop) (vs : List Value), VRels w S args vs → Calls P f vs.toArray w fun e w' => ∃ v r, e = .returned v ∧ R r ∧ Below w.heap.size w w' ∧ VRel w' (fun b => S b ∨ (w.heap.size ≤ b ∧ b < w'.heap.size)) r v) : PCall P f args R := fun w S vs hlt hh hv =>
  (h w S vs hv).mono fun e w' ⟨v, r, e1, hr, hb, hvr⟩ => ⟨v, _, r, [], e1, ⟨hr, rfl⟩, hvr, ⟨hb.os, hb.tape, hb.output, hb.size, fun b hlt _ => hb.block b hlt, fun b hb => .inl hb, fun b hb => by rcases hb with h | h; exact .inl h; exact .inr (.inl h.1)⟩,
    fun b h => by rcases h with h | h; exact Nat.lt_of_lt_of_le (hlt b h) hb.size; exact h.2, HRel.nil, fun e he => (by cases he)⟩
theorem check_p (cp : Bool) (b : BankD) (hS : Short b) : PCall Try.prog 23 [bankA cp b] (fun r => r = intA (faultN b)) := pcall_below fun w S vs hv => by
  obtain ⟨v, us, rfl, h1, hv⟩ := rels1 hv
  obtain rfl := rels0 hv
  obtain ⟨da, dc, la, lc, rfl, hc, hB⟩ := bank_at h1
  exact (check_any da la dc lc b w hB hS).mono fun e w' ⟨e1, hb⟩ => ⟨_, _, e1, rfl, hb, .v _⟩
theorem none_rel {w : World} {S : Nat → Prop} {cp : Bool} {n : Nat} {f : Nat → List Tr} : Tl.TRel w S (.sl cp n 0 f) (.slice none 0 0) :=
  .sl (fun _ _ => undef) (fun _ => Nat.le_refl _) (fun k hk => absurd hk (by omega)) (fun k hk => absurd hk (by omega)) (fun k j x hk => absurd hk (by omega))
theorem lawfault_p (cp : Bool) (b : BankD) (hd : b.days.length ≤ 1000) (hl : b.loans.length ≤ 1000) : PCall Try.prog 22 [bankA cp b] (fun r => r = intA (faultN b)) := pcall_below fun w S vs hvs => by
  obtain ⟨v, us, rfl, h1, hvs⟩ := rels1 hvs
  obtain rfl := rels0 hvs
  obtain ⟨da, dc, la, lc, rfl, hc, hB⟩ := bank_at h1
  exact (lawfault_any da la dc lc b w hB.1 hB.2 hd hl).mono fun e w' ⟨e1, hb⟩ => ⟨_, _, e1, rfl, hb, .v _⟩
abbrev noneA : AV := .v (.slice none 0 0)
theorem ints_le {cp : Bool} (xs : List Int) : TrLe (intsT cp xs) (intsT false xs) := .sl (fun h => by cases h) (fun k hk => ⟨rfl, fun j x x' h1 h2 => by rw [h1] at h2; cases h2; exact .refl _⟩)
theorem rngs_le {cp : Bool} (xs : List Rng) : TrLe (rngsT cp xs) (rngsT false xs) := .sl (fun h => by cases h) (fun k hk => ⟨rfl, fun j x x' h1 h2 => by rw [h1] at h2; cases h2; exact .refl _⟩)
theorem one_le {x x' : Tr} (h : TrLe x x') : ∀ (j : Nat) (y y' : Tr), ([x] : List Tr)[j]? = some y → ([x'] : List Tr)[j]? = some y' → TrLe y y' := fun j y y' h1 h2 => by
  match j with
  | 0 => simp at h1 h2; subst h1; subst h2; exact h
  | j + 1 => simp at h1
end Go.Proofs.Ytfiacjdkdjkiiaa
namespace Go.Proofs.Ytfiacjdkdjkiiaa
open Go Go.RowKit Go.Tl
set_option linter.unusedVariables false
set_option linter.unusedSimpArgs false
theorem rows_tree {α : Type} {d : α} (xs : List α) (row : α → List AV) (f : α → List Tr) (h : ∀ x, row x = (f x).map AV.ofTr) : ∀ k, k < xs.length → (xs.map row).getD k [] = ((fun k => f (xs.getD k d)) k).map AV.ofTr := fun k hk => by
  simp [List.getD_eq_getElem?_getD, hk, h]
theorem rows_step {α : Type} {d : α} {xs : List α} {k : Nat} (row : α → List AV) (hk : k < xs.length) : (xs.take (k + 1)).map row = (xs.take k).map row ++ [row (xs.getD k d)] := by
  rw [take_succ_getD d hk, List.map_append]; rfl
theorem rows_len {α : Type} {xs : List α} {k : Nat} {rows : List (List AV)} {row : α → List AV} (h : rows = (xs.take k).map row) (hk : k ≤ xs.length) : rows.length = k := by rw [h]; simp; omega
def lstRow (x : List Int) : List AV := [.t (intsT true x)]
theorem lstRows_tree (xs : List (List Int)) : ∀ k, k < xs.length → (xs.map lstRow).getD k [] = ((fun k => [intsT true (xs.getD k [])]) k).map AV.ofTr := fun k hk => by
  simp [List.getD_eq_getElem?_getD, hk, lstRow, AV.ofTr, intsT]
theorem range_step {α : Type} (f : Nat → α) (k : Nat) : (List.range (k + 1)).map f = (List.range k).map f ++ [f k] := by rw [List.range_succ, List.map_append]; rfl
theorem ofn_le {cp : Bool} {sz n : Nat} {f f' : Nat → List Tr} (h : ∀ k, k < n → (f' k).length = (f k).length ∧ ∀ (j : Nat) (x x' : Tr), (f k)[j]? = some x → (f' k)[j]? = some x' → TrLe x x') : TrLe (.sl true sz n f) (.sl cp sz n f') := .sl (fun _ => rfl) h
theorem inB_iff {n lo hi : Int} : inB n lo hi = true ↔ lo ≤ n ∧ n ≤ hi := by simp [inB]
end Go.Proofs.Ytfiacjdkdjkiiaa
