/- Books that came in, opened as plain data. -/
import Derived.Test.YtlpknbneilgjkaaZnRRa
namespace Go.Proofs.Ytlpknbneilgjkaa.R
open Go Go.RowKit Go.ChangeShapes Go.Tl
set_option linter.unusedVariables false
set_option linter.unusedSimpArgs false
def ConsAt (w : World) (a : Option Addr) (cs : List ConD) : Prop :=
  ∀ k, k < cs.length → ∃ b off, a = some ⟨b, off, none⟩ ∧ w.cell? ⟨b, off + k * 4, none⟩ = some (.int .i64 (cs.getD k default).frm) ∧ w.cell? ⟨b, off + k * 4 + 1, none⟩ = some (.int .i64 (cs.getD k default).to) ∧
    w.cell? ⟨b, off + k * 4 + 2, none⟩ = some (.int .i64 (cs.getD k default).num) ∧ w.cell? ⟨b, off + k * 4 + 3, none⟩ = some (.int .i64 (cs.getD k default).price)
section
variable {P : Program} {H : Type} {enc : TypeId × Value → H} {w : World} {base : Nat} {spare : Nat → Bool} {held : Bool}
theorem trod_struct4 {t : TypeId} {f0 f1 f2 f3 : Field} {fuel : Nat} {cs : List Value} {x : DataW H × List MemPlace} (ht : P.underlying t = some (.struct #[f0, f1, f2, f3])) (h : DataW.trod enc P w base spare held fuel t cs = some x) :
    ∃ y0 y1 y2 y3 n, cs.length = P.cellsOf t ∧ DataW.trod enc P w base spare held n f0.type ((cs.drop f0.offset).take (P.cellsOf f0.type)) = some y0 ∧
      DataW.trod enc P w base spare held n f1.type ((cs.drop f1.offset).take (P.cellsOf f1.type)) = some y1 ∧ DataW.trod enc P w base spare held n f2.type ((cs.drop f2.offset).take (P.cellsOf f2.type)) = some y2 ∧
      DataW.trod enc P w base spare held n f3.type ((cs.drop f3.offset).take (P.cellsOf f3.type)) = some y3 := by
  obtain ⟨xs, n, _, rfl, hl, hlen, hf⟩ := DataW.trod_struct ht h
  match xs, hlen with
  | [y0, y1, y2, y3], _ => exact ⟨y0, y1, y2, y3, n, hl, by simpa using hf 0 f0 rfl, by simpa using hf 1 f1 rfl, by simpa using hf 2 f2 rfl, by simpa using hf 3 f3 rfl⟩
theorem open_cons {t te e : TypeId} {q0 q1 q2 q3 : Field} {fuel : Nat} {cs : List Value} {x : DataW H × List MemPlace} (hs : P.underlying t = some (.slice te)) (hsz : P.cellsOf te = 4) (ht : P.underlying te = some (.struct #[q0, q1, q2, q3])) (hq0 : q0.type = e ∧ q0.offset = 0) (hq1 : q1.type = e ∧ q1.offset = 1) (hq2 : q2.type = e ∧ q2.offset = 2) (hq3 : q3.type = e ∧ q3.offset = 3)
    (he : P.underlying e = some (.int .i64)) (hc : P.cellsOf e = 1)
    (h : DataW.trod enc P w base spare held fuel t cs = some x) : ∃ (a : Option Addr) (c : Nat) (rs : List ConD), cs = [.slice a rs.length c] ∧ rs.length ≤ maxLen ∧ ConsAt w a rs := by
  obtain ⟨a, c, l, g1, g2, g3⟩ := open_slice (α := ConD) (R := fun val r => val 0 = .int .i64 r.frm ∧ val 1 = .int .i64 r.to ∧ val 2 = .int .i64 r.num ∧ val 3 = .int .i64 r.price) hs hsz (by omega) (fun fuel cs y hy hl => by
    obtain ⟨y0, y1, y2, y3, n, _, k0, k1, k2, k3⟩ := trod_struct4 ht hy
    match cs, hl with
    | [u, v, z, z2], _ =>
      rw [hq0.1, hq0.2, hc] at k0
      rw [hq1.1, hq1.2, hc] at k1
      rw [hq2.1, hq2.2, hc] at k2
      rw [hq3.1, hq3.2, hc] at k3
      obtain ⟨m0, e0, _, _⟩ := DataW.trod_int he k0
      obtain ⟨m1, e1, _, _⟩ := DataW.trod_int he k1
      obtain ⟨m2, e2, _, _⟩ := DataW.trod_int he k2
      obtain ⟨m3, e3, _, _⟩ := DataW.trod_int he k3
      simp only [List.drop_zero, List.take_succ_cons, List.take_zero, List.cons.injEq, and_true] at e0
      simp only [List.drop_succ_cons, List.drop_zero, List.take_succ_cons, List.take_nil, List.take_zero, List.cons.injEq, and_true] at e1
      simp only [List.drop_succ_cons, List.drop_zero, List.take_succ_cons, List.take_nil, List.take_zero, List.cons.injEq, and_true] at e2
      simp only [List.drop_succ_cons, List.drop_zero, List.take_succ_cons, List.take_nil, List.take_zero, List.cons.injEq, and_true] at e3
      exact ⟨⟨m0, m1, m2, m3⟩, e0, e1, e2, e3⟩) h
  refine ⟨a, c, l, g1, g2, fun k hk => ?_⟩
  obtain ⟨b, off, val, e, g, r1, r2, r3, r4⟩ := g3 k hk
  refine ⟨b, off, e, ?_, ?_, ?_, ?_⟩
  · have := g 0 (by omega); rw [r1] at this; simpa using this
  · have := g 1 (by omega); rw [r2] at this; exact this
  · have := g 2 (by omega); rw [r3] at this; exact this
  · have := g 3 (by omega); rw [r4] at this; exact this
end
theorem cons_in {w : World} {a : Option Addr} {c : Nat} {xs : List ConD} (h : ConsAt w a xs) : Tl.TRel w (fun b => b < w.heap.size) (consT false xs) (.slice a xs.length c) := by
  refine sl_in (fun _ _ => rfl) (by omega) (fun k hk => ?_)
  obtain ⟨b, off, e, h0, h1, h2, h3⟩ := h k hk
  refine ⟨b, off, fun j => if j = 0 then .int .i64 (xs.getD k default).frm else if j = 1 then .int .i64 (xs.getD k default).to else if j = 2 then .int .i64 (xs.getD k default).num else .int .i64 (xs.getD k default).price, e, fun j hj => ?_, fun j x hx => ?_⟩
  · rcases (show j = 0 ∨ j = 1 ∨ j = 2 ∨ j = 3 by omega) with rfl | rfl | rfl | rfl
    · simpa using h0
    · simpa using h1
    · simpa using h2
    · simpa using h3
  · match j with
    | 0 => simp [conL] at hx; subst hx; exact .sc _
    | 1 => simp [conL] at hx; subst hx; exact .sc _
    | 2 => simp [conL] at hx; subst hx; exact .sc _
    | 3 => simp [conL] at hx; subst hx; exact .sc _
    | j + 4 => simp [conL] at hx
theorem book_in {w : World} {a : Option Addr} {c : Nat} {b : BookD} (h : ConsAt w a b.cons) : VRel w (fun b => b < w.heap.size) (bookA false b) (.agg #[.int .i64 b.houses, .slice a b.cons.length c]) :=
  ag_rel (vs := [_, _]) (rels_cons (.v _) (rels_cons (.t (cons_in h)) rels_nil))
theorem cells3 : Try.prog.cellsOf 3 = 1 := by kernel_rfl
theorem cells79 : Try.prog.cellsOf 79 = 1 := by kernel_rfl
theorem cells81 : Try.prog.cellsOf 81 = 2 := by kernel_rfl
theorem cells93 : Try.prog.cellsOf 93 = 4 := by kernel_rfl
theorem cells29 : Try.prog.cellsOf 29 = 1 := by kernel_rfl
section
variable {H : Type} {enc : TypeId × Value → H} {w : World} {base : Nat} {spare : Nat → Bool} {held : Bool}
set_option maxRecDepth 100000 in
theorem open_book {fuel : Nat} {cs : List Value} {x : DataW H × List MemPlace} (h : DataW.trod enc Try.prog w base spare held fuel 81 cs = some x) :
    ∃ (b : BookD) (a : Option Addr) (c : Nat), cs = [.int .i64 b.houses, .slice a b.cons.length c] ∧ b.cons.length ≤ maxLen ∧ ConsAt w a b.cons := by
  obtain ⟨y0, y1, n, hx0, hl, k0, k1⟩ := trod_struct2 Try.underlying81 h
  rw [cells81] at hl
  match cs, hl with
  | [u, v], _ =>
    rw [cells3] at k0
    rw [cells79] at k1
    obtain ⟨st, e0, _, _⟩ := DataW.trod_int Try.underlying3 k0
    obtain ⟨a, c, ds, e1, hd, hD⟩ := open_cons Try.underlying79 cells93 Try.underlying93 ⟨rfl, rfl⟩ ⟨rfl, rfl⟩ ⟨rfl, rfl⟩ ⟨rfl, rfl⟩ Try.underlying3 cells3 k1
    simp only [List.drop_zero, List.take_succ_cons, List.take_zero, List.cons.injEq, and_true] at e0
    simp only [List.drop_succ_cons, List.drop_zero, List.take_succ_cons, List.take_nil, List.take_zero, List.cons.injEq, and_true] at e1
    exact ⟨⟨st, ds⟩, a, c, by rw [e0, e1], hd, hD⟩
end
end Go.Proofs.Ytlpknbneilgjkaa.R
