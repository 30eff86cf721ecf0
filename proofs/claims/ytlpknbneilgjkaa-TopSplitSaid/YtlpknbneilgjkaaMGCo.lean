/- Joined texts: Cs, Op, Or, Oq. -/
import Derived.ChangeSame
import Derived.ChangeSlices
import Derived.ChangeShapes
import Derived.Test.YtlpknbneilgjkaaTt
import Derived.Test.YtlpknbneilgjkaaTL
import Derived.Test.YtlpknbneilgjkaaMGWa
import Derived.Test.YtlpknbneilgjkaaMGWb
import Derived.Test.YtlpknbneilgjkaaMGBs
import Derived.Test.YtlpknbneilgjkaaGOb
import Derived.Test.YtlpknbneilgjkaaGPa
import Derived.Test.YtlpknbneilgjkaaGTs
import Derived.Test.YtlpknbneilgjkaaGTy
section
namespace Go.Proofs.Ytlpknbneilgjkaa.M
open Go Go.RowKit Go.Tl
set_option linter.unusedVariables false
def rngL (r : Rng) : List Tr := [.sc (.int .i64 r.lo), .sc (.int .i64 r.hi)]
def rngsT (cp : Bool) (rs : List Rng) : Tr := .sl cp 2 rs.length (fun k => rngL (rs.getD k default))
def rowsT (cp : Bool) (xs : List (List Int)) : Tr := .sl cp 1 xs.length (fun k => [intsT false (xs.getD k [])])
def dayL (d : DayD) : List Tr := [rngsT false d.prices, .sc (.int .i64 d.rate.lo), .sc (.int .i64 d.rate.hi)]
def daysT (cp : Bool) (ds : List DayD) : Tr := .sl cp 3 ds.length (fun k => dayL (ds.getD k default))
def loanL (l : LoanD) : List Tr := [.sc (.int .i64 l.money), .sc (.int .i64 l.margin), intsT false l.shares]
def loansT (cp : Bool) (ls : List LoanD) : Tr := .sl cp 3 ls.length (fun k => loanL (ls.getD k default))
abbrev bankA (cp : Bool) (b : BankD) : AV := .ag [intA b.stocks, .t (daysT cp b.days), .t (loansT false b.loans)]
abbrev truthA (t : TruthD) : AV := .ag [.t (rowsT false t.prices), .t (intsT false t.rates)]
abbrev rngA (r : Rng) : AV := .ag [intA r.lo, intA r.hi]
section
variable {w : World} {S : Nat → Prop}
end
theorem none_rel {w : World} {S : Nat → Prop} {cp : Bool} {n : Nat} {f : Nat → List Tr} : Tl.TRel w S (.sl cp n 0 f) (.slice none 0 0) :=
  .sl (fun _ _ => undef) (fun _ => Nat.le_refl _) (fun k hk => absurd hk (by omega)) (fun k hk => absurd hk (by omega)) (fun k j x hk => absurd hk (by omega))
abbrev noneA : AV := .v (.slice none 0 0)
theorem ints_le {cp : Bool} (xs : List Int) : TrLe (intsT cp xs) (intsT false xs) := .sl (fun h => by cases h) (fun k hk => ⟨rfl, fun j x x' h1 h2 => by rw [h1] at h2; cases h2; exact .refl _⟩)
theorem rngs_le {cp : Bool} (xs : List Rng) : TrLe (rngsT cp xs) (rngsT false xs) := .sl (fun h => by cases h) (fun k hk => ⟨rfl, fun j x x' h1 h2 => by rw [h1] at h2; cases h2; exact .refl _⟩)
theorem one_le {x x' : Tr} (h : TrLe x x') : ∀ (j : Nat) (y y' : Tr), ([x] : List Tr)[j]? = some y → ([x'] : List Tr)[j]? = some y' → TrLe y y' := fun j y y' h1 h2 => by
  match j with
  | 0 => simp at h1 h2; subst h1; subst h2; exact h
  | j + 1 => simp at h1
end Go.Proofs.Ytlpknbneilgjkaa.M
namespace Go.Proofs.Ytlpknbneilgjkaa.M
open Go Go.RowKit Go.Tl
set_option linter.unusedVariables false
set_option linter.unusedSimpArgs false
theorem rows_tree {α : Type} {d : α} (xs : List α) (row : α → List AV) (f : α → List Tr) (h : ∀ x, row x = (f x).map AV.ofTr) : ∀ k, k < xs.length → (xs.map row).getD k [] = ((fun k => f (xs.getD k d)) k).map AV.ofTr := fun k hk => by
  simp [List.getD_eq_getElem?_getD, hk, h]
theorem rows_step {α : Type} {d : α} {xs : List α} {k : Nat} (row : α → List AV) (hk : k < xs.length) : (xs.take (k + 1)).map row = (xs.take k).map row ++ [row (xs.getD k d)] := by
  rw [take_succ_getD d hk, List.map_append]; rfl
theorem rows_len {α : Type} {xs : List α} {k : Nat} {rows : List (List AV)} {row : α → List AV} (h : rows = (xs.take k).map row) (hk : k ≤ xs.length) : rows.length = k := by rw [h]; simp; omega
def lstRow (x : List Int) : List AV := [.t (intsT true x)]
theorem lstRows_tree (xs : List (List Int)) : ∀ k, k < xs.length → (xs.map lstRow).getD k [] = ((fun k => [intsT true (xs.getD k [])]) k).map AV.ofTr := fun k hk => by
  simp [List.getD_eq_getElem?_getD, hk, lstRow, AV.ofTr, intsT]
theorem range_step {α : Type} (f : Nat → α) (k : Nat) : (List.range (k + 1)).map f = (List.range k).map f ++ [f k] := by rw [List.range_succ, List.map_append]; rfl
theorem ofn_le {cp : Bool} {sz n : Nat} {f f' : Nat → List Tr} (h : ∀ k, k < n → (f' k).length = (f k).length ∧ ∀ (j : Nat) (x x' : Tr), (f k)[j]? = some x → (f' k)[j]? = some x' → TrLe x x') : TrLe (.sl true sz n f) (.sl cp sz n f') := .sl (fun _ => rfl) h
theorem inB_iff {n lo hi : Int} : inB n lo hi = true ↔ lo ≤ n ∧ n ≤ hi := by simp [inB]
end Go.Proofs.Ytlpknbneilgjkaa.M
end
section
namespace Go.Proofs.Ytlpknbneilgjkaa.M
open Go Go.RowKit Go.ChangeShapes
set_option linter.unusedVariables false
set_option linter.unusedSimpArgs false
theorem list_of {α : Type} [Inhabited α] {n : Nat} {R : Nat → α → Prop} (h : ∀ i, i < n → ∃ x, R i x) : ∃ l : List α, l.length = n ∧ ∀ i, i < n → R i (l.getD i default) := by
  classical
  refine ⟨(List.range n).map fun i => if hi : i < n then Classical.choose (h i hi) else default, by simp, fun i hi => ?_⟩
  have e : ((List.range n).map fun i => if hi : i < n then Classical.choose (h i hi) else default).getD i default = Classical.choose (h i hi) := by
    simp [List.getD_eq_getElem?_getD, hi]
  rw [e]
  exact Classical.choose_spec (h i hi)
section
variable {H : Type} {enc : TypeId × Value → H} {P : Program} {w : World} {base : Nat} {spare : Nat → Bool} {held : Bool}
theorem open_slice {α : Type} [Inhabited α] {t e : TypeId} {sz fuel : Nat} {cs : List Value} {x : DataW H × List MemPlace} (ht : P.underlying t = some (.slice e)) (hsz : P.cellsOf e = sz) (hpos : 0 < sz) {R : (Nat → Value) → α → Prop}
    (hR : ∀ (fuel : Nat) (cs : List Value) (y : DataW H × List MemPlace), DataW.trod enc P w base spare held fuel e cs = some y → cs.length = sz → ∃ r : α, R (fun j => cs.getD j undef) r)
    (h : DataW.trod enc P w base spare held fuel t cs = some x) :
    ∃ (a : Option Addr) (c : Nat) (l : List α), cs = [.slice a l.length c] ∧ l.length ≤ maxLen ∧ ∀ k, k < l.length → ∃ b off val, a = some ⟨b, off, none⟩ ∧ (∀ j, j < sz → w.cell? ⟨b, off + k * sz + j, none⟩ = some (val j)) ∧ R val (l.getD k default) := by
  rcases DataW.trod_slice ht h with ⟨rfl, _⟩ | ⟨a, len, cap, elems, rest, n, _, rfl, _, hb, hl, hm, hlen, hel, _, _⟩
  · exact ⟨none, 0, [], rfl, Nat.zero_le _, fun k hk => absurd hk (Nat.not_lt_zero _)⟩
  have hspot : 0 < len → a.spot = none := fun h0 => by
    have h1 := hel 0 h0
    rw [hsz, List.getElem?_eq_getElem (by omega), Option.bind_eq_some_iff] at h1
    obtain ⟨cs1, hc1, hy1⟩ := h1
    obtain ⟨_, hl1, hcell⟩ := World.cells?_some hc1
    have g0 := hcell 0 hpos
    rw [List.getElem?_eq_getElem (by omega)] at g0
    simpa [Addr.add] using World.cell?_spot g0
  have each : ∀ i, i < len → ∃ r : α, ∃ b off val, some a = some ⟨b, off, none⟩ ∧ (∀ j, j < sz → w.cell? ⟨b, off + i * sz + j, none⟩ = some (val j)) ∧ R val r := fun i hi => by
    have h1 := hel i hi
    rw [hsz, List.getElem?_eq_getElem (by omega), Option.bind_eq_some_iff] at h1
    obtain ⟨cs1, hc1, hy1⟩ := h1
    obtain ⟨_, hl1, hcell⟩ := World.cells?_some hc1
    obtain ⟨r, hr⟩ := hR n cs1 _ hy1 hl1
    obtain ⟨b, off, spot⟩ := a
    have hsp : spot = none := hspot (by omega)
    subst hsp
    refine ⟨r, b, off, fun j => cs1.getD j undef, rfl, fun j hj => ?_, hr⟩
    have g := hcell j hj
    rw [List.getElem?_eq_getElem (by omega)] at g
    have e2 : cs1.getD j undef = cs1[j]'(by omega) := by simp [List.getD_eq_getElem?_getD, show j < cs1.length by omega]
    show _ = some (cs1.getD j undef)
    rw [e2, ← g]
    congr 1
    unfold Addr.add
    split <;> split <;> simp_all
  obtain ⟨l, hll, hl2⟩ := list_of each
  exact ⟨some a, cap, l, by rw [hll], by omega, fun k hk => hl2 k (by omega)⟩
theorem trod_struct3 {t : TypeId} {f0 f1 f2 : Field} {fuel : Nat} {cs : List Value} {x : DataW H × List MemPlace} (ht : P.underlying t = some (.struct #[f0, f1, f2])) (h : DataW.trod enc P w base spare held fuel t cs = some x) :
    ∃ y0 y1 y2 n, cs.length = P.cellsOf t ∧ DataW.trod enc P w base spare held n f0.type ((cs.drop f0.offset).take (P.cellsOf f0.type)) = some y0 ∧
      DataW.trod enc P w base spare held n f1.type ((cs.drop f1.offset).take (P.cellsOf f1.type)) = some y1 ∧ DataW.trod enc P w base spare held n f2.type ((cs.drop f2.offset).take (P.cellsOf f2.type)) = some y2 := by
  obtain ⟨xs, n, _, rfl, hl, hlen, hf⟩ := DataW.trod_struct ht h
  match xs, hlen with
  | [y0, y1, y2], _ => exact ⟨y0, y1, y2, n, hl, by simpa using hf 0 f0 rfl, by simpa using hf 1 f1 rfl, by simpa using hf 2 f2 rfl⟩
theorem open_i64s {t e : TypeId} {fuel : Nat} {cs : List Value} {x : DataW H × List MemPlace} (ht : P.underlying t = some (.slice e)) (he : P.underlying e = some (.int .i64)) (hc : P.cellsOf e = 1)
    (h : DataW.trod enc P w base spare held fuel t cs = some x) : ∃ (a : Option Addr) (c : Nat) (xs : List Int), cs = [.slice a xs.length c] ∧ xs.length ≤ maxLen ∧ IntsAt w a xs := by
  obtain ⟨a, c, l, h1, h2, h3⟩ := open_slice (α := Int) (R := fun val r => val 0 = .int .i64 r) ht hc (by omega) (fun fuel cs y hy hl => by
    obtain ⟨n, rfl, _, _⟩ := DataW.trod_int he hy
    exact ⟨n, rfl⟩) h
  refine ⟨a, c, l, h1, h2, fun k hk => ?_⟩
  obtain ⟨b, off, val, e, g, r⟩ := h3 k hk
  refine ⟨b, off, e, ?_⟩
  have := g 0 (by omega)
  rw [r] at this
  simpa using this
theorem open_rng {t e : TypeId} {f0 f1 : Field} {fuel : Nat} {cs : List Value} {x : DataW H × List MemPlace} (ht : P.underlying t = some (.struct #[f0, f1])) (h0 : f0.type = e ∧ f0.offset = 0) (h1 : f1.type = e ∧ f1.offset = 1) (he : P.underlying e = some (.int .i64)) (hc : P.cellsOf e = 1) (hl : cs.length = 2)
    (h : DataW.trod enc P w base spare held fuel t cs = some x) : ∃ r : Rng, cs = [.int .i64 r.lo, .int .i64 r.hi] := by
  obtain ⟨y0, y1, n, _, _, g0, g1⟩ := trod_struct2 ht h
  match cs, hl with
  | [u, v], _ =>
    rw [h0.1, h0.2, hc] at g0
    rw [h1.1, h1.2, hc] at g1
    obtain ⟨lo, e0, _, _⟩ := DataW.trod_int he g0
    obtain ⟨hi, e1, _, _⟩ := DataW.trod_int he g1
    simp only [List.drop_zero, List.take_succ_cons, List.take_zero, List.cons.injEq, and_true] at e0
    simp only [List.drop_succ_cons, List.drop_zero, List.take_succ_cons, List.take_nil, List.cons.injEq, and_true] at e1
    exact ⟨⟨lo, hi⟩, by rw [e0, e1]⟩
theorem open_rngs {t te e : TypeId} {f0 f1 : Field} {fuel : Nat} {cs : List Value} {x : DataW H × List MemPlace} (hs : P.underlying t = some (.slice te)) (hsz : P.cellsOf te = 2) (ht : P.underlying te = some (.struct #[f0, f1])) (h0 : f0.type = e ∧ f0.offset = 0) (h1 : f1.type = e ∧ f1.offset = 1) (he : P.underlying e = some (.int .i64)) (hc : P.cellsOf e = 1)
    (h : DataW.trod enc P w base spare held fuel t cs = some x) : ∃ (a : Option Addr) (c : Nat) (rs : List Rng), cs = [.slice a rs.length c] ∧ rs.length ≤ maxLen ∧ RngsAt w a rs := by
  obtain ⟨a, c, l, g1, g2, g3⟩ := open_slice (α := Rng) (R := fun val r => val 0 = .int .i64 r.lo ∧ val 1 = .int .i64 r.hi) hs hsz (by omega) (fun fuel cs y hy hl => by
    obtain ⟨r, rfl⟩ := open_rng ht h0 h1 he hc hl hy
    exact ⟨r, rfl, rfl⟩) h
  refine ⟨a, c, l, g1, g2, fun k hk => ?_⟩
  obtain ⟨b, off, val, e, g, r1, r2⟩ := g3 k hk
  refine ⟨b, off, e, ?_, ?_⟩
  · have := g 0 (by omega); rw [r1] at this; simpa using this
  · have := g 1 (by omega); rw [r2] at this; exact this
theorem open_rows {t te e : TypeId} {fuel : Nat} {cs : List Value} {x : DataW H × List MemPlace} (hs : P.underlying t = some (.slice te)) (hsz : P.cellsOf te = 1) (ht : P.underlying te = some (.slice e)) (he : P.underlying e = some (.int .i64)) (hc : P.cellsOf e = 1)
    (h : DataW.trod enc P w base spare held fuel t cs = some x) : ∃ (a : Option Addr) (c : Nat) (xs : List (List Int)), cs = [.slice a xs.length c] ∧ xs.length ≤ maxLen ∧ RowsAt w a xs := by
  obtain ⟨a, c, l, g1, g2, g3⟩ := open_slice (α := List Int) (R := fun val r => ∃ pa pc, val 0 = .slice pa r.length pc ∧ IntsAt w pa r) hs hsz (by omega) (fun fuel cs y hy hl => by
    obtain ⟨pa, pc, xs, rfl, _, hx⟩ := open_i64s ht he hc hy
    exact ⟨xs, pa, pc, rfl, hx⟩) h
  refine ⟨a, c, l, g1, g2, fun k hk => ?_⟩
  obtain ⟨b, off, val, e, g, pa, pc, r1, r2⟩ := g3 k hk
  refine ⟨b, off, pa, pc, e, ?_, r2⟩
  have := g 0 (by omega)
  rw [r1, Nat.mul_one, Nat.add_zero] at this
  exact this
theorem open_days {t td ts tr e : TypeId} {f0 f1 q0 q1 : Field} {fuel : Nat} {cs : List Value} {x : DataW H × List MemPlace} (hs : P.underlying t = some (.slice td)) (hsz : P.cellsOf td = 3) (ht : P.underlying td = some (.struct #[q0, q1])) (hq0 : q0.type = ts ∧ q0.offset = 0 ∧ P.cellsOf ts = 1) (hq1 : q1.type = tr ∧ q1.offset = 1 ∧ P.cellsOf tr = 2)
    (hts : P.underlying ts = some (.slice tr)) (htr : P.underlying tr = some (.struct #[f0, f1])) (h0 : f0.type = e ∧ f0.offset = 0) (h1 : f1.type = e ∧ f1.offset = 1) (he : P.underlying e = some (.int .i64)) (hc : P.cellsOf e = 1)
    (h : DataW.trod enc P w base spare held fuel t cs = some x) : ∃ (a : Option Addr) (c : Nat) (ds : List DayD), cs = [.slice a ds.length c] ∧ ds.length ≤ maxLen ∧ DaysAt w a ds := by
  obtain ⟨a, c, l, g1, g2, g3⟩ := open_slice (α := DayD) (R := fun val r => ∃ pa pc, val 0 = .slice pa r.prices.length pc ∧ val 1 = .int .i64 r.rate.lo ∧ val 2 = .int .i64 r.rate.hi ∧ RngsAt w pa r.prices) hs hsz (by omega) (fun fuel cs y hy hl => by
    obtain ⟨y0, y1, n, _, _, k0, k1⟩ := trod_struct2 ht hy
    match cs, hl with
    | [u, v, z], _ =>
      rw [hq0.1, hq0.2.1, hq0.2.2] at k0
      rw [hq1.1, hq1.2.1, hq1.2.2] at k1
      obtain ⟨pa, pc, rs, e0, _, hr⟩ := open_rngs hts hq1.2.2 htr h0 h1 he hc k0
      obtain ⟨r, e1⟩ := open_rng htr h0 h1 he hc rfl k1
      simp only [List.drop_zero, List.take_succ_cons, List.take_zero, List.cons.injEq, and_true] at e0
      simp only [List.drop_succ_cons, List.drop_zero, List.take_succ_cons, List.take_nil, List.take_zero, List.cons.injEq, and_true] at e1
      exact ⟨⟨rs, r⟩, pa, pc, e0, e1.1, e1.2, hr⟩) h
  refine ⟨a, c, l, g1, g2, fun k hk => ?_⟩
  obtain ⟨b, off, val, e, g, pa, pc, r1, r2, r3, r4⟩ := g3 k hk
  refine ⟨b, off, pa, pc, e, ?_, ?_, ?_, r4⟩
  · have := g 0 (by omega); rw [r1] at this; simpa using this
  · have := g 1 (by omega); rw [r2] at this; exact this
  · have := g 2 (by omega); rw [r3] at this; exact this
theorem open_loans {t tl ts e : TypeId} {q0 q1 q2 : Field} {fuel : Nat} {cs : List Value} {x : DataW H × List MemPlace} (hs : P.underlying t = some (.slice tl)) (hsz : P.cellsOf tl = 3) (ht : P.underlying tl = some (.struct #[q0, q1, q2])) (hq0 : q0.type = e ∧ q0.offset = 0) (hq1 : q1.type = e ∧ q1.offset = 1) (hq2 : q2.type = ts ∧ q2.offset = 2 ∧ P.cellsOf ts = 1)
    (hts : P.underlying ts = some (.slice e)) (he : P.underlying e = some (.int .i64)) (hc : P.cellsOf e = 1)
    (h : DataW.trod enc P w base spare held fuel t cs = some x) : ∃ (a : Option Addr) (c : Nat) (ls : List LoanD), cs = [.slice a ls.length c] ∧ ls.length ≤ maxLen ∧ LoansAt w a ls := by
  obtain ⟨a, c, l, g1, g2, g3⟩ := open_slice (α := LoanD) (R := fun val r => ∃ pa pc, val 0 = .int .i64 r.money ∧ val 1 = .int .i64 r.margin ∧ val 2 = .slice pa r.shares.length pc ∧ IntsAt w pa r.shares) hs hsz (by omega) (fun fuel cs y hy hl => by
    obtain ⟨y0, y1, y2, n, _, k0, k1, k2⟩ := trod_struct3 ht hy
    match cs, hl with
    | [u, v, z], _ =>
      rw [hq0.1, hq0.2, hc] at k0
      rw [hq1.1, hq1.2, hc] at k1
      rw [hq2.1, hq2.2.1, hq2.2.2] at k2
      obtain ⟨m, e0, _, _⟩ := DataW.trod_int he k0
      obtain ⟨g, e1, _, _⟩ := DataW.trod_int he k1
      obtain ⟨pa, pc, rs, e2, _, hr⟩ := open_i64s hts he hc k2
      simp only [List.drop_zero, List.take_succ_cons, List.take_zero, List.cons.injEq, and_true] at e0
      simp only [List.drop_succ_cons, List.drop_zero, List.take_succ_cons, List.take_nil, List.take_zero, List.cons.injEq, and_true] at e1
      simp only [List.drop_succ_cons, List.drop_zero, List.take_succ_cons, List.take_nil, List.take_zero, List.cons.injEq, and_true] at e2
      exact ⟨⟨m, g, rs⟩, pa, pc, e0, e1, e2, hr⟩) h
  refine ⟨a, c, l, g1, g2, fun k hk => ?_⟩
  obtain ⟨b, off, val, e, g, pa, pc, r1, r2, r3, r4⟩ := g3 k hk
  refine ⟨b, off, pa, pc, e, ?_, ?_, ?_, r4⟩
  · have := g 0 (by omega); rw [r1] at this; simpa using this
  · have := g 1 (by omega); rw [r2] at this; exact this
  · have := g 2 (by omega); rw [r3] at this; exact this
end
end Go.Proofs.Ytlpknbneilgjkaa.M
end
section
namespace Go.Proofs.Ytlpknbneilgjkaa.M
open Go Go.RowKit Go.Tl
set_option linter.unusedVariables false
section
variable {w : World}
theorem sl_in {a : Option Addr} {c sz n : Nat} {f : Nat → List Tr} (hl : ∀ k, k < n → (f k).length = sz) (hsz : 0 < sz)
    (h : ∀ k, k < n → ∃ (b off : Nat) (val : Nat → Value), a = some ⟨b, off, none⟩ ∧ (∀ j, j < sz → w.cell? ⟨b, off + k * sz + j, none⟩ = some (val j)) ∧ ∀ (j : Nat) (x : Tr), (f k)[j]? = some x → Tl.TRel w (fun b => b < w.heap.size) x (val j)) :
    Tl.TRel w (fun b => b < w.heap.size) (.sl false sz n f) (.slice a n c) := by
  have h' : ∀ k, ∃ val : Nat → Value, k < n → ∃ b off : Nat, a = some ⟨b, off, none⟩ ∧ (∀ j, j < sz → w.cell? ⟨b, off + k * sz + j, none⟩ = some (val j)) ∧ ∀ (j : Nat) (x : Tr), (f k)[j]? = some x → Tl.TRel w (fun b => b < w.heap.size) x (val j) := fun k => by
    by_cases hk : k < n
    · obtain ⟨b, off, val, h1, h2, h3⟩ := h k hk
      exact ⟨val, fun _ => ⟨b, off, h1, h2, h3⟩⟩
    · exact ⟨fun _ => undef, fun h => absurd h hk⟩
  obtain ⟨V, hV⟩ := Classical.axiomOfChoice h'
  refine .sl V (fun h => by cases h) hl (fun k hk => ?_) (fun k j x hk hx => ?_)
  · obtain ⟨b, off, h1, h2, _⟩ := hV k hk
    exact ⟨b, off, h1, World.block_lt_of_cell? _ _ (h2 0 hsz), h2⟩
  · obtain ⟨b, off, _, _, h3⟩ := hV k hk
    exact h3 j x hx
theorem ints_in {a : Option Addr} {c : Nat} {xs : List Int} (h : IntsAt w a xs) : Tl.TRel w (fun b => b < w.heap.size) (intsT false xs) (.slice a xs.length c) := by
  refine sl_in (fun _ _ => rfl) (by omega) (fun k hk => ?_)
  obtain ⟨b, off, e, hc⟩ := h k hk
  refine ⟨b, off, fun _ => .int .i64 (xs.getD k 0), e, fun j hj => ?_, fun j x hx => ?_⟩
  · obtain rfl : j = 0 := by omega
    simpa using hc
  · match j with
    | 0 => simp at hx; subst hx; exact .sc _
    | j + 1 => simp at hx
theorem rngs_in {a : Option Addr} {c : Nat} {xs : List Rng} (h : RngsAt w a xs) : Tl.TRel w (fun b => b < w.heap.size) (rngsT false xs) (.slice a xs.length c) := by
  refine sl_in (fun _ _ => rfl) (by omega) (fun k hk => ?_)
  obtain ⟨b, off, e, h0, h1⟩ := h k hk
  refine ⟨b, off, fun j => if j = 0 then .int .i64 (xs.getD k default).lo else .int .i64 (xs.getD k default).hi, e, fun j hj => ?_, fun j x hx => ?_⟩
  · rcases (show j = 0 ∨ j = 1 by omega) with rfl | rfl
    · simpa using h0
    · simpa using h1
  · match j with
    | 0 => simp [rngL] at hx; subst hx; exact .sc _
    | 1 => simp [rngL] at hx; subst hx; exact .sc _
    | j + 2 => simp [rngL] at hx
theorem days_in {a : Option Addr} {c : Nat} {xs : List DayD} (h : DaysAt w a xs) : Tl.TRel w (fun b => b < w.heap.size) (daysT false xs) (.slice a xs.length c) := by
  refine sl_in (fun _ _ => rfl) (by omega) (fun k hk => ?_)
  obtain ⟨b, off, pa, pc, e, h0, h1, h2, h3⟩ := h k hk
  refine ⟨b, off, fun j => if j = 0 then .slice pa (xs.getD k default).prices.length pc else if j = 1 then .int .i64 (xs.getD k default).rate.lo else .int .i64 (xs.getD k default).rate.hi, e, fun j hj => ?_, fun j x hx => ?_⟩
  · rcases (show j = 0 ∨ j = 1 ∨ j = 2 by omega) with rfl | rfl | rfl
    · simpa using h0
    · simpa using h1
    · simpa using h2
  · match j with
    | 0 => simp [dayL] at hx; subst hx; exact rngs_in h3
    | 1 => simp [dayL] at hx; subst hx; exact .sc _
    | 2 => simp [dayL] at hx; subst hx; exact .sc _
    | j + 3 => simp [dayL] at hx
theorem loans_in {a : Option Addr} {c : Nat} {xs : List LoanD} (h : LoansAt w a xs) : Tl.TRel w (fun b => b < w.heap.size) (loansT false xs) (.slice a xs.length c) := by
  refine sl_in (fun _ _ => rfl) (by omega) (fun k hk => ?_)
  obtain ⟨b, off, pa, pc, e, h0, h1, h2, h3⟩ := h k hk
  refine ⟨b, off, fun j => if j = 0 then .int .i64 (xs.getD k default).money else if j = 1 then .int .i64 (xs.getD k default).margin else .slice pa (xs.getD k default).shares.length pc, e, fun j hj => ?_, fun j x hx => ?_⟩
  · rcases (show j = 0 ∨ j = 1 ∨ j = 2 by omega) with rfl | rfl | rfl
    · simpa using h0
    · simpa using h1
    · simpa using h2
  · match j with
    | 0 => simp [loanL] at hx; subst hx; exact .sc _
    | 1 => simp [loanL] at hx; subst hx; exact .sc _
    | 2 => simp [loanL] at hx; subst hx; exact ints_in h3
    | j + 3 => simp [loanL] at hx
theorem rels_cons {S : Nat → Prop} {x : AV} {v : Value} {xs : List AV} {vs : List Value} (h : VRel w S x v) (hs : VRels w S xs vs) : VRels w S (x :: xs) (v :: vs) :=
  ⟨by simp [hs.1], fun j a b ha hb => by
    cases j with
    | zero => simp at ha hb; subst ha; subst hb; exact h
    | succ j => exact hs.2 j a b (by simpa using ha) (by simpa using hb)⟩
theorem rels_nil {S : Nat → Prop} : VRels w S [] [] := ⟨rfl, fun j x y h => by simp at h⟩
theorem ag_rel {S : Nat → Prop} {cs : List AV} {vs : List Value} (h : VRels w S cs vs) : VRel w S (.ag cs) (.agg vs.toArray) := .ag h.1 h.2
theorem bank_in {da la : Option Addr} {dc lc : Nat} {b : BankD} (h : BankAt w da la b) : VRel w (fun b => b < w.heap.size) (bankA false b) (.agg #[.int .i64 b.stocks, .slice da b.days.length dc, .slice la b.loans.length lc]) :=
  ag_rel (vs := [_, _, _]) (rels_cons (.v _) (rels_cons (.t (days_in h.1)) (rels_cons (.t (loans_in h.2)) rels_nil)))
end
end Go.Proofs.Ytlpknbneilgjkaa.M
end
section
namespace Go.Proofs.Ytlpknbneilgjkaa.M
open Go Go.RowKit Go.ChangeShapes Go.Tl
set_option linter.unusedVariables false
def KintsAt (k : IntKind) (w : World) (a : Option Addr) (xs : List Int) : Prop :=
  ∀ j, j < xs.length → ∃ b off, a = some ⟨b, off, none⟩ ∧ w.cell? ⟨b, off + j, none⟩ = some (.int k (xs.getD j 0))
abbrev kintsT (k : IntKind) (xs : List Int) : Tr := .sl false 1 xs.length (fun j => [.sc (.int k (xs.getD j 0))])
theorem kints_in {k : IntKind} {w : World} {a : Option Addr} {c : Nat} {xs : List Int} (h : KintsAt k w a xs) : Tl.TRel w (fun b => b < w.heap.size) (kintsT k xs) (.slice a xs.length c) := by
  refine sl_in (fun _ _ => rfl) (by omega) fun j hj => ?_
  obtain ⟨b, off, e, hc⟩ := h j hj
  exact ⟨b, off, fun _ => .int k (xs.getD j 0), e, fun q hq => by obtain rfl : q = 0 := by omega
                                                                  simpa using hc, fun q x hx => by
    cases q with
    | zero => simp at hx; subst hx; exact .sc _
    | succ q => simp at hx⟩
theorem wf_in {k : IntKind} {n : Int} (h : (Lit.int k n).wf = true) : k.min ≤ n ∧ n ≤ k.max := by simpa [Lit.wf] using h
section
variable {P : Program} {H : Type} {enc : TypeId × Value → H} {w : World} {base : Nat} {spare : Nat → Bool} {held : Bool}
theorem open_kints {k : IntKind} {t e : TypeId} {fuel : Nat} {cs : List Value} {x : DataW H × List MemPlace} (ht : P.underlying t = some (.slice e)) (he : P.underlying e = some (.int k)) (hc : P.cellsOf e = 1)
    (h : DataW.trod enc P w base spare held fuel t cs = some x) : ∃ (a : Option Addr) (c : Nat) (xs : List Int), cs = [.slice a xs.length c] ∧ xs.length ≤ maxLen ∧ KintsAt k w a xs ∧ ∀ y ∈ xs, k.min ≤ y ∧ y ≤ k.max := by
  obtain ⟨a, c, l, h1, h2, h3⟩ := open_slice (α := Int) (R := fun val r => val 0 = .int k r ∧ k.min ≤ r ∧ r ≤ k.max) ht hc (by omega) (fun fuel cs y hy hl => by
    obtain ⟨n, rfl, _, hw⟩ := DataW.trod_int he hy
    exact ⟨n, rfl, wf_in hw⟩) h
  refine ⟨a, c, l, h1, h2, fun j hj => ?_, fun y hy => ?_⟩
  · obtain ⟨b, off, val, e, g, r⟩ := h3 j hj
    refine ⟨b, off, e, ?_⟩
    have := g 0 (by omega)
    rw [r.1] at this
    simpa using this
  · obtain ⟨j, hj, rfl⟩ := List.getElem_of_mem hy
    obtain ⟨b, off, val, e, g, r⟩ := h3 j hj
    have e : l.getD j default = l[j] := by simp [List.getD_eq_getElem?_getD, hj]
    rw [e] at r
    exact r.2
end
end Go.Proofs.Ytlpknbneilgjkaa.M
end
