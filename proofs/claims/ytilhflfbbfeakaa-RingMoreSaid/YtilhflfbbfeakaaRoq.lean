/- A contract that came in, opened as plain data. -/
import Derived.Test.YtilhflfbbfeakaaRoc
namespace Go.Proofs.Ytilhflfbbfeakaa
open Go Go.RowKit Go.ChangeShapes Go.Tl
set_option linter.unusedVariables false
set_option linter.unusedSimpArgs false
section
variable {H : Type} {enc : TypeId × Value → H} {w : World} {base : Nat} {spare : Nat → Bool} {held : Bool}
set_option maxRecDepth 100000 in
theorem open_con {fuel : Nat} {cs : List Value} {x : DataW H × List MemPlace} (h : DataW.trod enc Try.prog w base spare held fuel 67 cs = some x) :
    ∃ m : ConD, cs = [.int .i64 m.frm, .int .i64 m.to, .int .i64 m.num, .int .i64 m.price] := by
  obtain ⟨y0, y1, y2, y3, n, hl, k0, k1, k2, k3⟩ := trod_struct4 Try.underlying67 h
  rw [cells67] at hl
  match cs, hl with
  | [u, v, z, z2], _ =>
    rw [cells3] at k0
    rw [cells3] at k1
    rw [cells3] at k2
    rw [cells3] at k3
    obtain ⟨m0, e0, _, _⟩ := DataW.trod_int Try.underlying3 k0
    obtain ⟨m1, e1, _, _⟩ := DataW.trod_int Try.underlying3 k1
    obtain ⟨m2, e2, _, _⟩ := DataW.trod_int Try.underlying3 k2
    obtain ⟨m3, e3, _, _⟩ := DataW.trod_int Try.underlying3 k3
    simp only [List.drop_zero, List.take_succ_cons, List.take_zero, List.cons.injEq, and_true] at e0
    simp only [List.drop_succ_cons, List.drop_zero, List.take_succ_cons, List.take_nil, List.take_zero, List.cons.injEq, and_true] at e1
    simp only [List.drop_succ_cons, List.drop_zero, List.take_succ_cons, List.take_nil, List.take_zero, List.cons.injEq, and_true] at e2
    simp only [List.drop_succ_cons, List.drop_zero, List.take_succ_cons, List.take_nil, List.take_zero, List.cons.injEq, and_true] at e3
    exact ⟨⟨m0, m1, m2, m3⟩, by rw [e0, e1, e2, e3]⟩
end
theorem con_in {w : World} {S : Nat → Prop} (m : ConD) : VRel w S (conA m) (.agg #[.int .i64 m.frm, .int .i64 m.to, .int .i64 m.num, .int .i64 m.price]) :=
  ag_rel (vs := [_, _, _, _]) (rels_cons (.v _) (rels_cons (.v _) (rels_cons (.v _) (rels_cons (.v _) rels_nil))))
end Go.Proofs.Ytilhflfbbfeakaa
