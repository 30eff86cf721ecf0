/- Rings that came in, opened as plain data. -/
import Derived.Test.YtilhflfbbfeakaaRoc
import Derived.Test.YtilhflfbbfeakaaRs0
namespace Go.Proofs.Ytilhflfbbfeakaa
open Go Go.RowKit Go.ChangeShapes Go.Tl
set_option linter.unusedVariables false
set_option linter.unusedSimpArgs false
def RingsAt (w : World) (a : Option Addr) (rs : List RingD) : Prop :=
  ∀ k, k < rs.length → ∃ b off pa pc, a = some ⟨b, off, none⟩ ∧ w.cell? ⟨b, off + k * 2, none⟩ = some (.slice pa (rs.getD k default).cons.length pc) ∧ w.cell? ⟨b, off + k * 2 + 1, none⟩ = some (.int .i64 (rs.getD k default).amount) ∧ IntsAt w pa (rs.getD k default).cons
theorem cells58 : Try.prog.cellsOf 74 = 2 := by kernel_rfl
section
variable {H : Type} {enc : TypeId × Value → H} {w : World} {base : Nat} {spare : Nat → Bool} {held : Bool}
set_option maxRecDepth 100000 in
theorem open_rings {fuel : Nat} {cs : List Value} {x : DataW H × List MemPlace} (h : DataW.trod enc Try.prog w base spare held fuel 58 cs = some x) :
    ∃ (a : Option Addr) (c : Nat) (rs : List RingD), cs = [.slice a rs.length c] ∧ rs.length ≤ maxLen ∧ RingsAt w a rs := by
  obtain ⟨a, c, l, g1, g2, g3⟩ := open_slice (α := RingD) (R := fun val r => ∃ pa pc, val 0 = .slice pa r.cons.length pc ∧ val 1 = .int .i64 r.amount ∧ IntsAt w pa r.cons) Try.underlying58 cells58 (by omega) (fun fuel cs y hy hl => by
    obtain ⟨y0, y1, n, _, _, k0, k1⟩ := trod_struct2 Try.underlying74 hy
    match cs, hl with
    | [u, v], _ =>
      rw [cells27] at k0
      rw [cells3] at k1
      obtain ⟨pa, pc, rs, e0, _, hr⟩ := open_i64s Try.underlying27 Try.underlying3 cells3 k0
      obtain ⟨m, e1, _, _⟩ := DataW.trod_int Try.underlying3 k1
      simp only [List.drop_zero, List.take_succ_cons, List.take_zero, List.cons.injEq, and_true] at e0
      simp only [List.drop_succ_cons, List.drop_zero, List.take_succ_cons, List.take_nil, List.take_zero, List.cons.injEq, and_true] at e1
      exact ⟨⟨rs, m⟩, pa, pc, e0, e1, hr⟩) h
  refine ⟨a, c, l, g1, g2, fun k hk => ?_⟩
  obtain ⟨b, off, val, e, g, pa, pc, r1, r2, r3⟩ := g3 k hk
  refine ⟨b, off, pa, pc, e, ?_, ?_, r3⟩
  · have := g 0 (by omega); rw [r1] at this; simpa using this
  · have := g 1 (by omega); rw [r2] at this; exact this
end
theorem kints_of {w : World} {a : Option Addr} {xs : List Int} (h : IntsAt w a xs) : KintsAt .i64 w a xs := h
theorem rings_in {w : World} {a : Option Addr} {c : Nat} {xs : List RingD} (h : RingsAt w a xs) : Tl.TRel w (fun b => b < w.heap.size) (ringsT false false xs) (.slice a xs.length c) := by
  refine sl_in (fun _ _ => rfl) (by omega) (fun k hk => ?_)
  obtain ⟨b, off, pa, pc, e, h0, h1, h2⟩ := h k hk
  refine ⟨b, off, fun j => if j = 0 then .slice pa (xs.getD k default).cons.length pc else .int .i64 (xs.getD k default).amount, e, fun j hj => ?_, fun j x hx => ?_⟩
  · rcases (show j = 0 ∨ j = 1 by omega) with rfl | rfl
    · simpa using h0
    · simpa using h1
  · match j with
    | 0 => simp [ringL] at hx; subst hx; exact kints_in (k := .i64) (kints_of h2)
    | 1 => simp [ringL] at hx; subst hx; exact .sc _
    | j + 2 => simp [ringL] at hx
end Go.Proofs.Ytilhflfbbfeakaa
