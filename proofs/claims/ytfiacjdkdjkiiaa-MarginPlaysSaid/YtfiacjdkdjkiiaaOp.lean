/- What came in, opened: slices of structs that hold slices, as plain data in memory. -/
import Derived.Test.YtfiacjdkdjkiiaaBase
import Derived.ChangeSame
import Derived.ChangeSlices
import Derived.ChangeShapes
namespace Go.Proofs.Ytfiacjdkdjkiiaa
open Go Go.RowKit Go.ChangeShapes
set_option linter.unusedVariables false
set_option linter.unusedSimpArgs false
theorem list_of {α : Type} [Inhabited α] {n : Nat} {R : Nat → α → Prop} (h : ∀ i, i < n → ∃ x, R i x) : ∃ l : List α, l.length = n ∧ ∀ i, i < n → R i (l.getD i default) := by
  classical
  refine ⟨(List.range n).map fun i => if hi : i < n then Classical.choose (h i hi) else default, by simp, fun i hi => ?_⟩
  have e : ((List.range n).map fun i => if hi : i < n then Classical.choose (h i hi) else default).getD i default = Classical.choose (h i hi) := by
    simp [List.getD_eq_getElem?_getD, hi]
  rw [e]
  exact Classical.choose_spec (h i hi)
section
variable {H : Type} {enc : TypeId × Value → H} {P : Program} {w : World} {base : Nat} {spare : Nat → Bool} {held : Bool}
theorem open_slice {α : Type} [Inhabited α] {t e : TypeId} {sz fuel : Nat} {cs : List Value} {x : DataW H × List MemPlace} (ht : P.underlying t = some (.slice e)) (hsz : P.cellsOf e = sz) (hpos : 0 < sz) {R : (Nat → Value) → α → Prop}
    (hR : ∀ (fuel : Nat) (cs : List Value) (y : DataW H × List MemPlace), DataW.trod enc P w base spare held fuel e cs = some y → cs.length = sz → ∃ r : α, R (fun j => cs.getD j undef) r)
    (h : DataW.trod enc P w base spare held fuel t cs = some x) :
    ∃ (a : Option Addr) (c : Nat) (l : List α), cs = [.slice a l.length c] ∧ l.length ≤ maxLen ∧ ∀ k, k < l.length → ∃ b off val, a = some ⟨b, off, none⟩ ∧ (∀ j, j < sz → w.cell? ⟨b, off + k * sz + j, none⟩ = some (val j)) ∧ R val (l.getD k default) := by
  rcases DataW.trod_slice ht h with ⟨rfl, _⟩ | ⟨a, len, cap, elems, rest, n, _, rfl, _, hb, hl, hm, hlen, hel, _, _⟩
  · exact ⟨none, 0, [], rfl, Nat.zero_le _, fun k hk => absurd hk (Nat.not_lt_zero _)⟩
  have hspot : 0 < len → a.spot = none := fun h0 => by
    have h1 := hel 0 h0
    rw [hsz, List.getElem?_eq_getElem (by omega), Option.bind_eq_some_iff] at h1
    obtain ⟨cs1, hc1, hy1⟩ := h1
    obtain ⟨_, hl1, hcell⟩ := World.cells?_some hc1
    have g0 := hcell 0 hpos
    rw [List.getElem?_eq_getElem (by omega)] at g0
    simpa [Addr.add] using World.cell?_spot g0
  have each : ∀ i, i < len → ∃ r : α, ∃ b off val, some a = some ⟨b, off, none⟩ ∧ (∀ j, j < sz → w.cell? ⟨b, off + i * sz + j, none⟩ = some (val j)) ∧ R val r := fun i hi => by
    have h1 := hel i hi
    rw [hsz, List.getElem?_eq_getElem (by omega), Option.bind_eq_some_iff] at h1
    obtain ⟨cs1, hc1, hy1⟩ := h1
    obtain ⟨_, hl1, hcell⟩ := World.cells?_some hc1
    obtain ⟨r, hr⟩ := hR n cs1 _ hy1 hl1
    obtain ⟨b, off, spot⟩ := a
    have hsp : spot = none := hspot (by omega)
    subst hsp
    refine ⟨r, b, off, fun j => cs1.getD j undef, rfl, fun j hj => ?_, hr⟩
    have g := hcell j hj
    rw [List.getElem?_eq_getElem (by omega)] at g
    have e2 : cs1.getD j undef = cs1[j]'(by omega) := by simp [List.getD_eq_getElem?_getD, show j < cs1.length by omega]
    show _ = some (cs1.getD j undef)
    rw [e2, ← g]
    congr 1
    unfold Addr.add
    split <;> split <;> simp_all
  obtain ⟨l, hll, hl2⟩ := list_of each
  exact ⟨some a, cap, l, by rw [hll], by omega, fun k hk => hl2 k (by omega)⟩
theorem trod_struct3 {t : TypeId} {f0 f1 f2 : Field} {fuel : Nat} {cs : List Value} {x : DataW H × List MemPlace} (ht : P.underlying t = some (.struct #[f0, f1, f2])) (h : DataW.trod enc P w base spare held fuel t cs = some x) :
    ∃ y0 y1 y2 n, cs.length = P.cellsOf t ∧ DataW.trod enc P w base spare held n f0.type ((cs.drop f0.offset).take (P.cellsOf f0.type)) = some y0 ∧
      DataW.trod enc P w base spare held n f1.type ((cs.drop f1.offset).take (P.cellsOf f1.type)) = some y1 ∧ DataW.trod enc P w base spare held n f2.type ((cs.drop f2.offset).take (P.cellsOf f2.type)) = some y2 := by
  obtain ⟨xs, n, _, rfl, hl, hlen, hf⟩ := DataW.trod_struct ht h
  match xs, hlen with
  | [y0, y1, y2], _ => exact ⟨y0, y1, y2, n, hl, by simpa using hf 0 f0 rfl, by simpa using hf 1 f1 rfl, by simpa using hf 2 f2 rfl⟩
theorem open_i64s {t e : TypeId} {fuel : Nat} {cs : List Value} {x : DataW H × List MemPlace} (ht : P.underlying t = some (.slice e)) (he : P.underlying e = some (.int .i64)) (hc : P.cellsOf e = 1)
    (h : DataW.trod enc P w base spare held fuel t cs = some x) : ∃ (a : Option Addr) (c : Nat) (xs : List Int), cs = [.slice a xs.length c] ∧ xs.length ≤ maxLen ∧ IntsAt w a xs := by
  obtain ⟨a, c, l, h1, h2, h3⟩ := open_slice (α := Int) (R := fun val r => val 0 = .int .i64 r) ht hc (by omega) (fun fuel cs y hy hl => by
    obtain ⟨n, rfl, _, _⟩ := DataW.trod_int he hy
    exact ⟨n, rfl⟩) h
  refine ⟨a, c, l, h1, h2, fun k hk => ?_⟩
  obtain ⟨b, off, val, e, g, r⟩ := h3 k hk
  refine ⟨b, off, e, ?_⟩
  have := g 0 (by omega)
  rw [r] at this
  simpa using this
theorem open_rng {t e : TypeId} {f0 f1 : Field} {fuel : Nat} {cs : List Value} {x : DataW H × List MemPlace} (ht : P.underlying t = some (.struct #[f0, f1])) (h0 : f0.type = e ∧ f0.offset = 0) (h1 : f1.type = e ∧ f1.offset = 1) (he : P.underlying e = some (.int .i64)) (hc : P.cellsOf e = 1) (hl : cs.length = 2)
    (h : DataW.trod enc P w base spare held fuel t cs = some x) : ∃ r : Rng, cs = [.int .i64 r.lo, .int .i64 r.hi] := by
  obtain ⟨y0, y1, n, _, _, g0, g1⟩ := trod_struct2 ht h
  match cs, hl with
  | [u, v], _ =>
    rw [h0.1, h0.2, hc] at g0
    rw [h1.1, h1.2, hc] at g1
    obtain ⟨lo, e0, _, _⟩ := DataW.trod_int he g0
    obtain ⟨hi, e1, _, _⟩ := DataW.trod_int he g1
    simp only [List.drop_zero, List.take_succ_cons, List.take_zero, List.cons.injEq, and_true] at e0
    simp only [List.drop_succ_cons, List.drop_zero, List.take_succ_cons, List.take_nil, List.cons.injEq, and_true] at e1
    exact ⟨⟨lo, hi⟩, by rw [e0, e1]⟩
theorem open_rngs {t te e : TypeId} {f0 f1 : Field} {fuel : Nat} {cs : List Value} {x : DataW H × List MemPlace} (hs : P.underlying t = some (.slice te)) (hsz : P.cellsOf te = 2) (ht : P.underlying te = some (.struct #[f0, f1])) (h0 : f0.type = e ∧ f0.offset = 0) (h1 : f1.type = e ∧ f1.offset = 1) (he : P.underlying e = some (.int .i64)) (hc : P.cellsOf e = 1)
    (h : DataW.trod enc P w base spare held fuel t cs = some x) : ∃ (a : Option Addr) (c : Nat) (rs : List Rng), cs = [.slice a rs.length c] ∧ rs.length ≤ maxLen ∧ RngsAt w a rs := by
  obtain ⟨a, c, l, g1, g2, g3⟩ := open_slice (α := Rng) (R := fun val r => val 0 = .int .i64 r.lo ∧ val 1 = .int .i64 r.hi) hs hsz (by omega) (fun fuel cs y hy hl => by
    obtain ⟨r, rfl⟩ := open_rng ht h0 h1 he hc hl hy
    exact ⟨r, rfl, rfl⟩) h
  refine ⟨a, c, l, g1, g2, fun k hk => ?_⟩
  obtain ⟨b, off, val, e, g, r1, r2⟩ := g3 k hk
  refine ⟨b, off, e, ?_, ?_⟩
  · have := g 0 (by omega); rw [r1] at this; simpa using this
  · have := g 1 (by omega); rw [r2] at this; exact this
theorem open_rows {t te e : TypeId} {fuel : Nat} {cs : List Value} {x : DataW H × List MemPlace} (hs : P.underlying t = some (.slice te)) (hsz : P.cellsOf te = 1) (ht : P.underlying te = some (.slice e)) (he : P.underlying e = some (.int .i64)) (hc : P.cellsOf e = 1)
    (h : DataW.trod enc P w base spare held fuel t cs = some x) : ∃ (a : Option Addr) (c : Nat) (xs : List (List Int)), cs = [.slice a xs.length c] ∧ xs.length ≤ maxLen ∧ RowsAt w a xs := by
  obtain ⟨a, c, l, g1, g2, g3⟩ := open_slice (α := List Int) (R := fun val r => ∃ pa pc, val 0 = .slice pa r.length pc ∧ IntsAt w pa r) hs hsz (by omega) (fun fuel cs y hy hl => by
    obtain ⟨pa, pc, xs, rfl, _, hx⟩ := open_i64s ht he hc hy
    exact ⟨xs, pa, pc, rfl, hx⟩) h
  refine ⟨a, c, l, g1, g2, fun k hk => ?_⟩
  obtain ⟨b, off, val, e, g, pa, pc, r1, r2⟩ := g3 k hk
  refine ⟨b, off, pa, pc, e, ?_, r2⟩
  have := g 0 (by omega)
  rw [r1, Nat.mul_one, Nat.add_zero] at this
  exact this
theorem open_days {t td ts tr e : TypeId} {f0 f1 q0 q1 : Field} {fuel : Nat} {cs : List Value} {x : DataW H × List MemPlace} (hs : P.underlying t = some (.slice td)) (hsz : P.cellsOf td = 3) (ht : P.underlying td = some (.struct #[q0, q1])) (hq0 : q0.type = ts ∧ q0.offset = 0 ∧ P.cellsOf ts = 1) (hq1 : q1.type = tr ∧ q1.offset = 1 ∧ P.cellsOf tr = 2)
    (hts : P.underlying ts = some (.slice tr)) (htr : P.underlying tr = some (.struct #[f0, f1])) (h0 : f0.type = e ∧ f0.offset = 0) (h1 : f1.type = e ∧ f1.offset = 1) (he : P.underlying e = some (.int .i64)) (hc : P.cellsOf e = 1)
    (h : DataW.trod enc P w base spare held fuel t cs = some x) : ∃ (a : Option Addr) (c : Nat) (ds : List DayD), cs = [.slice a ds.length c] ∧ ds.length ≤ maxLen ∧ DaysAt w a ds := by
  obtain ⟨a, c, l, g1, g2, g3⟩ := open_slice (α := DayD) (R := fun val r => ∃ pa pc, val 0 = .slice pa r.prices.length pc ∧ val 1 = .int .i64 r.rate.lo ∧ val 2 = .int .i64 r.rate.hi ∧ RngsAt w pa r.prices) hs hsz (by omega) (fun fuel cs y hy hl => by
    obtain ⟨y0, y1, n, _, _, k0, k1⟩ := trod_struct2 ht hy
    match cs, hl with
    | [u, v, z], _ =>
      rw [hq0.1, hq0.2.1, hq0.2.2] at k0
      rw [hq1.1, hq1.2.1, hq1.2.2] at k1
      obtain ⟨pa, pc, rs, e0, _, hr⟩ := open_rngs hts hq1.2.2 htr h0 h1 he hc k0
      obtain ⟨r, e1⟩ := open_rng htr h0 h1 he hc rfl k1
      simp only [List.drop_zero, List.take_succ_cons, List.take_zero, List.cons.injEq, and_true] at e0
      simp only [List.drop_succ_cons, List.drop_zero, List.take_succ_cons, List.take_nil, List.take_zero, List.cons.injEq, and_true] at e1
      exact ⟨⟨rs, r⟩, pa, pc, e0, e1.1, e1.2, hr⟩) h
  refine ⟨a, c, l, g1, g2, fun k hk => ?_⟩
  obtain ⟨b, off, val, e, g, pa, pc, r1, r2, r3, r4⟩ := g3 k hk
  refine ⟨b, off, pa, pc, e, ?_, ?_, ?_, r4⟩
  · have := g 0 (by omega); rw [r1] at this; simpa using this
  · have := g 1 (by omega); rw [r2] at this; exact this
  · have := g 2 (by omega); rw [r3] at this; exact this
theorem open_loans {t tl ts e : TypeId} {q0 q1 q2 : Field} {fuel : Nat} {cs : List Value} {x : DataW H × List MemPlace} (hs : P.underlying t = some (.slice tl)) (hsz : P.cellsOf tl = 3) (ht : P.underlying tl = some (.struct #[q0, q1, q2])) (hq0 : q0.type = e ∧ q0.offset = 0) (hq1 : q1.type = e ∧ q1.offset = 1) (hq2 : q2.type = ts ∧ q2.offset = 2 ∧ P.cellsOf ts = 1)
    (hts : P.underlying ts = some (.slice e)) (he : P.underlying e = some (.int .i64)) (hc : P.cellsOf e = 1)
    (h : DataW.trod enc P w base spare held fuel t cs = some x) : ∃ (a : Option Addr) (c : Nat) (ls : List LoanD), cs = [.slice a ls.length c] ∧ ls.length ≤ maxLen ∧ LoansAt w a ls := by
  obtain ⟨a, c, l, g1, g2, g3⟩ := open_slice (α := LoanD) (R := fun val r => ∃ pa pc, val 0 = .int .i64 r.money ∧ val 1 = .int .i64 r.margin ∧ val 2 = .slice pa r.shares.length pc ∧ IntsAt w pa r.shares) hs hsz (by omega) (fun fuel cs y hy hl => by
    obtain ⟨y0, y1, y2, n, _, k0, k1, k2⟩ := trod_struct3 ht hy
    match cs, hl with
    | [u, v, z], _ =>
      rw [hq0.1, hq0.2, hc] at k0
      rw [hq1.1, hq1.2, hc] at k1
      rw [hq2.1, hq2.2.1, hq2.2.2] at k2
      obtain ⟨m, e0, _, _⟩ := DataW.trod_int he k0
      obtain ⟨g, e1, _, _⟩ := DataW.trod_int he k1
      obtain ⟨pa, pc, rs, e2, _, hr⟩ := open_i64s hts he hc k2
      simp only [List.drop_zero, List.take_succ_cons, List.take_zero, List.cons.injEq, and_true] at e0
      simp only [List.drop_succ_cons, List.drop_zero, List.take_succ_cons, List.take_nil, List.take_zero, List.cons.injEq, and_true] at e1
      simp only [List.drop_succ_cons, List.drop_zero, List.take_succ_cons, List.take_nil, List.take_zero, List.cons.injEq, and_true] at e2
      exact ⟨⟨m, g, rs⟩, pa, pc, e0, e1, e2, hr⟩) h
  refine ⟨a, c, l, g1, g2, fun k hk => ?_⟩
  obtain ⟨b, off, val, e, g, pa, pc, r1, r2, r3, r4⟩ := g3 k hk
  refine ⟨b, off, pa, pc, e, ?_, ?_, ?_, r4⟩
  · have := g 0 (by omega); rw [r1] at this; simpa using this
  · have := g 1 (by omega); rw [r2] at this; exact this
  · have := g 2 (by omega); rw [r3] at this; exact this
end
end Go.Proofs.Ytfiacjdkdjkiiaa
