/- Markets, contracts and sales that came in, opened as plain data. -/
import Derived.Test.YtallicfckbdeaaaGHj
namespace Go.Proofs.Ytallicfckbdeaaa
open Go Go.RowKit Go.ChangeShapes Go.Tl
set_option linter.unusedVariables false
set_option linter.unusedSimpArgs false
set_option maxRecDepth 100000
def houVal (o : HouD) (j : Nat) : Value := if j = 0 then .int .i64 o.lo else if j = 1 then .int .i64 o.hi else if j = 2 then .bool o.sells else .int .i64 o.ask
def conVal (s : ConD) (j : Nat) : Value := if j = 0 then .int .i64 s.sh else if j = 1 then .int .i64 s.lg else .int .i64 s.n
def salVal (s : SalC) (j : Nat) : Value := if j = 0 then .int .i64 s.fr else if j = 1 then .int .i64 s.to else .int .i64 s.sh
def HousAt (w : World) (a : Option Addr) (os : List HouD) : Prop :=
  ∀ k, k < os.length → ∃ b off, a = some ⟨b, off, none⟩ ∧ ∀ j, j < 4 → w.cell? ⟨b, off + k * 4 + j, none⟩ = some (houVal (os.getD k default) j)
def ConsAt (w : World) (a : Option Addr) (l : List ConD) : Prop :=
  ∀ k, k < l.length → ∃ b off, a = some ⟨b, off, none⟩ ∧ ∀ j, j < 3 → w.cell? ⟨b, off + k * 3 + j, none⟩ = some (conVal (l.getD k default) j)
def SalsAt (w : World) (a : Option Addr) (l : List SalC) : Prop :=
  ∀ k, k < l.length → ∃ b off, a = some ⟨b, off, none⟩ ∧ ∀ j, j < 3 → w.cell? ⟨b, off + k * 3 + j, none⟩ = some (salVal (l.getD k default) j)
theorem tcells3 : Try.prog.cellsOf 3 = 1 := by kernel_rfl
theorem tcells4 : Try.prog.cellsOf 4 = 1 := by kernel_rfl
theorem tcells22 : Try.prog.cellsOf 22 = 1 := by kernel_rfl
theorem tcells23 : Try.prog.cellsOf 23 = 1 := by kernel_rfl
theorem tcells25 : Try.prog.cellsOf 25 = 3 := by kernel_rfl
theorem tcells53 : Try.prog.cellsOf 53 = 2 := by kernel_rfl
theorem tcells88 : Try.prog.cellsOf 88 = 4 := by kernel_rfl
theorem tcells101 : Try.prog.cellsOf 101 = 3 := by kernel_rfl
theorem tcells130 : Try.prog.cellsOf 130 = 3 := by kernel_rfl
section
variable {P : Program} {H : Type} {enc : TypeId × Value → H} {w : World} {base : Nat} {spare : Nat → Bool} {held : Bool}
theorem trod_struct2' {t : TypeId} {f0 f1 : Field} {fuel : Nat} {cs : List Value} {x : DataW H × List MemPlace} (ht : P.underlying t = some (.struct #[f0, f1])) (h : DataW.trod enc P w base spare held fuel t cs = some x) :
    ∃ y0 y1 n, cs.length = P.cellsOf t ∧ DataW.trod enc P w base spare held n f0.type ((cs.drop f0.offset).take (P.cellsOf f0.type)) = some y0 ∧
      DataW.trod enc P w base spare held n f1.type ((cs.drop f1.offset).take (P.cellsOf f1.type)) = some y1 := by
  obtain ⟨xs, n, _, rfl, hl, hlen, hf⟩ := DataW.trod_struct ht h
  match xs, hlen with
  | [y0, y1], _ => exact ⟨y0, y1, n, hl, by simpa using hf 0 f0 rfl, by simpa using hf 1 f1 rfl⟩
theorem trod_struct3' {t : TypeId} {f0 f1 f2 : Field} {fuel : Nat} {cs : List Value} {x : DataW H × List MemPlace} (ht : P.underlying t = some (.struct #[f0, f1, f2])) (h : DataW.trod enc P w base spare held fuel t cs = some x) :
    ∃ y0 y1 y2 n, cs.length = P.cellsOf t ∧ DataW.trod enc P w base spare held n f0.type ((cs.drop f0.offset).take (P.cellsOf f0.type)) = some y0 ∧
      DataW.trod enc P w base spare held n f1.type ((cs.drop f1.offset).take (P.cellsOf f1.type)) = some y1 ∧ DataW.trod enc P w base spare held n f2.type ((cs.drop f2.offset).take (P.cellsOf f2.type)) = some y2 := by
  obtain ⟨xs, n, _, rfl, hl, hlen, hf⟩ := DataW.trod_struct ht h
  match xs, hlen with
  | [y0, y1, y2], _ => exact ⟨y0, y1, y2, n, hl, by simpa using hf 0 f0 rfl, by simpa using hf 1 f1 rfl, by simpa using hf 2 f2 rfl⟩
end
section
variable {H : Type} {enc : TypeId × Value → H} {w : World} {base : Nat} {spare : Nat → Bool} {held : Bool}
theorem open_rng {fuel : Nat} {cs : List Value} {x : DataW H × List MemPlace} (h : DataW.trod enc Try.prog w base spare held fuel 53 cs = some x) : ∃ a b : Int, cs = [.int .i64 a, .int .i64 b] := by
  obtain ⟨y0, y1, n, hl, k0, k1⟩ := trod_struct2' Try.underlying53 h
  rw [tcells53] at hl
  match cs, hl with
  | [u, v], _ =>
    rw [tcells3] at k0 k1
    obtain ⟨a, e0, _, _⟩ := DataW.trod_int Try.underlying3 k0
    obtain ⟨b, e1, _, _⟩ := DataW.trod_int Try.underlying3 k1
    simp only [List.drop_zero, List.take_succ_cons, List.take_zero, List.cons.injEq, and_true] at e0
    simp only [List.drop_succ_cons, List.drop_zero, List.take_succ_cons, List.take_nil, List.take_zero, List.cons.injEq, and_true] at e1
    exact ⟨a, b, by rw [e0, e1]⟩
theorem open_hou {fuel : Nat} {cs : List Value} {x : DataW H × List MemPlace} (h : DataW.trod enc Try.prog w base spare held fuel 88 cs = some x) : ∃ o : HouD, cs = [.int .i64 o.lo, .int .i64 o.hi, .bool o.sells, .int .i64 o.ask] := by
  obtain ⟨y0, y1, y2, n, hl, k0, k1, k2⟩ := trod_struct3' Try.underlying88 h
  rw [tcells88] at hl
  match cs, hl with
  | [u0, u1, u2, u3], _ =>
    rw [tcells53] at k0
    rw [tcells4] at k1
    rw [tcells3] at k2
    obtain ⟨m0, m1, e0⟩ := open_rng k0
    obtain ⟨b, e1, _⟩ := DataW.trod_bool Try.underlying4 k1
    obtain ⟨m2, e2, _, _⟩ := DataW.trod_int Try.underlying3 k2
    simp only [List.drop_zero, List.take_succ_cons, List.take_zero, List.cons.injEq, and_true] at e0
    simp only [List.drop_succ_cons, List.drop_zero, List.take_succ_cons, List.take_nil, List.take_zero, List.cons.injEq, and_true] at e1 e2
    exact ⟨⟨m0, m1, b, m2⟩, by rw [e0.1, e0.2, e1, e2]⟩
theorem open_con {fuel : Nat} {cs : List Value} {x : DataW H × List MemPlace} (h : DataW.trod enc Try.prog w base spare held fuel 101 cs = some x) : ∃ s : ConD, cs = [.int .i64 s.sh, .int .i64 s.lg, .int .i64 s.n] := by
  obtain ⟨y0, y1, y2, n, hl, k0, k1, k2⟩ := trod_struct3' Try.underlying101 h
  rw [tcells101] at hl
  match cs, hl with
  | [u0, u1, u2], _ =>
    rw [tcells3] at k0 k1 k2
    obtain ⟨m0, e0, _, _⟩ := DataW.trod_int Try.underlying3 k0
    obtain ⟨m1, e1, _, _⟩ := DataW.trod_int Try.underlying3 k1
    obtain ⟨m2, e2, _, _⟩ := DataW.trod_int Try.underlying3 k2
    simp only [List.drop_zero, List.take_succ_cons, List.take_zero, List.cons.injEq, and_true] at e0
    simp only [List.drop_succ_cons, List.drop_zero, List.take_succ_cons, List.take_nil, List.take_zero, List.cons.injEq, and_true] at e1 e2
    exact ⟨⟨m0, m1, m2⟩, by rw [e0, e1, e2]⟩
theorem open_sal {fuel : Nat} {cs : List Value} {x : DataW H × List MemPlace} (h : DataW.trod enc Try.prog w base spare held fuel 130 cs = some x) : ∃ s : SalC, cs = [.int .i64 s.fr, .int .i64 s.to, .int .i64 s.sh] := by
  obtain ⟨y0, y1, y2, n, hl, k0, k1, k2⟩ := trod_struct3' Try.underlying130 h
  rw [tcells130] at hl
  match cs, hl with
  | [u0, u1, u2], _ =>
    rw [tcells3] at k0 k1 k2
    obtain ⟨m0, e0, _, _⟩ := DataW.trod_int Try.underlying3 k0
    obtain ⟨m1, e1, _, _⟩ := DataW.trod_int Try.underlying3 k1
    obtain ⟨m2, e2, _, _⟩ := DataW.trod_int Try.underlying3 k2
    simp only [List.drop_zero, List.take_succ_cons, List.take_zero, List.cons.injEq, and_true] at e0
    simp only [List.drop_succ_cons, List.drop_zero, List.take_succ_cons, List.take_nil, List.take_zero, List.cons.injEq, and_true] at e1 e2
    exact ⟨⟨m0, m1, m2⟩, by rw [e0, e1, e2]⟩
theorem open_hous {fuel : Nat} {cs : List Value} {x : DataW H × List MemPlace} (h : DataW.trod enc Try.prog w base spare held fuel 22 cs = some x) : ∃ (a : Option Addr) (c : Nat) (os : List HouD), cs = [.slice a os.length c] ∧ os.length ≤ maxLen ∧ HousAt w a os := by
  obtain ⟨a, c, l, g1, g2, g3⟩ := open_slice (α := HouD) (R := fun val r => ∀ j, j < 4 → val j = houVal r j) Try.underlying22 tcells88 (by omega) (fun fuel cs y hy hl => by
    obtain ⟨o, rfl⟩ := open_hou hy
    refine ⟨o, fun j hj => ?_⟩
    rcases (show j = 0 ∨ j = 1 ∨ j = 2 ∨ j = 3 by omega) with rfl | rfl | rfl | rfl <;> rfl) h
  refine ⟨a, c, l, g1, g2, fun k hk => ?_⟩
  obtain ⟨b, off, val, e, g, r⟩ := g3 k hk
  exact ⟨b, off, e, fun j hj => by rw [g j hj, r j hj]⟩
theorem open_cons {fuel : Nat} {cs : List Value} {x : DataW H × List MemPlace} (h : DataW.trod enc Try.prog w base spare held fuel 23 cs = some x) : ∃ (a : Option Addr) (c : Nat) (l : List ConD), cs = [.slice a l.length c] ∧ l.length ≤ maxLen ∧ ConsAt w a l := by
  obtain ⟨a, c, l, g1, g2, g3⟩ := open_slice (α := ConD) (R := fun val r => ∀ j, j < 3 → val j = conVal r j) Try.underlying23 tcells101 (by omega) (fun fuel cs y hy hl => by
    obtain ⟨o, rfl⟩ := open_con hy
    refine ⟨o, fun j hj => ?_⟩
    rcases (show j = 0 ∨ j = 1 ∨ j = 2 by omega) with rfl | rfl | rfl <;> rfl) h
  refine ⟨a, c, l, g1, g2, fun k hk => ?_⟩
  obtain ⟨b, off, val, e, g, r⟩ := g3 k hk
  exact ⟨b, off, e, fun j hj => by rw [g j hj, r j hj]⟩
theorem open_sales {fuel : Nat} {cs : List Value} {x : DataW H × List MemPlace} (h : DataW.trod enc Try.prog w base spare held fuel 81 cs = some x) : ∃ (a : Option Addr) (c : Nat) (l : List SalC), cs = [.slice a l.length c] ∧ l.length ≤ maxLen ∧ SalsAt w a l := by
  obtain ⟨a, c, l, g1, g2, g3⟩ := open_slice (α := SalC) (R := fun val r => ∀ j, j < 3 → val j = salVal r j) Try.underlying81 tcells130 (by omega) (fun fuel cs y hy hl => by
    obtain ⟨o, rfl⟩ := open_sal hy
    refine ⟨o, fun j hj => ?_⟩
    rcases (show j = 0 ∨ j = 1 ∨ j = 2 by omega) with rfl | rfl | rfl <;> rfl) h
  refine ⟨a, c, l, g1, g2, fun k hk => ?_⟩
  obtain ⟨b, off, val, e, g, r⟩ := g3 k hk
  exact ⟨b, off, e, fun j hj => by rw [g j hj, r j hj]⟩
theorem open_market {fuel : Nat} {cs : List Value} {x : DataW H × List MemPlace} (h : DataW.trod enc Try.prog w base spare held fuel 25 cs = some x) :
    ∃ (m : MktD) (a : Option Addr) (c : Nat) (a' : Option Addr) (c' : Nat), cs = [.int .i64 m.ex, .slice a m.hou.length c, .slice a' m.con.length c'] ∧ (m.hou.length ≤ maxLen ∧ m.con.length ≤ maxLen) ∧ HousAt w a m.hou ∧ ConsAt w a' m.con := by
  obtain ⟨y0, y1, y2, n, hl, k0, k1, k2⟩ := trod_struct3' Try.underlying25 h
  rw [tcells25] at hl
  match cs, hl with
  | [u0, u1, u2], _ =>
    rw [tcells3] at k0
    rw [tcells22] at k1
    rw [tcells23] at k2
    obtain ⟨m0, e0, _, _⟩ := DataW.trod_int Try.underlying3 k0
    obtain ⟨a, c, os, e1, hd, hD⟩ := open_hous k1
    obtain ⟨a', c', l, e2, hd', hD'⟩ := open_cons k2
    simp only [List.drop_zero, List.take_succ_cons, List.take_zero, List.cons.injEq, and_true] at e0
    simp only [List.drop_succ_cons, List.drop_zero, List.take_succ_cons, List.take_nil, List.take_zero, List.cons.injEq, and_true] at e1 e2
    exact ⟨⟨m0, os, l⟩, a, c, a', c', by rw [e0, e1, e2], ⟨hd, hd'⟩, hD, hD'⟩
end
theorem hous_in {w : World} {a : Option Addr} {c : Nat} {xs : List HouD} (h : HousAt w a xs) : Tl.TRel w (fun b => b < w.heap.size) (housT false xs) (.slice a xs.length c) := by
  refine sl_in (fun _ _ => rfl) (by omega) (fun k hk => ?_)
  obtain ⟨b, off, e, h0⟩ := h k hk
  refine ⟨b, off, houVal (xs.getD k default), e, h0, fun j x hx => ?_⟩
  match j with
  | 0 => simp [houL] at hx; subst hx; exact .sc _
  | 1 => simp [houL] at hx; subst hx; exact .sc _
  | 2 => simp [houL] at hx; subst hx; exact .sc _
  | 3 => simp [houL] at hx; subst hx; exact .sc _
  | j + 4 => simp [houL] at hx
theorem cons_in {w : World} {a : Option Addr} {c : Nat} {xs : List ConD} (h : ConsAt w a xs) : Tl.TRel w (fun b => b < w.heap.size) (consT false xs) (.slice a xs.length c) := by
  refine sl_in (fun _ _ => rfl) (by omega) (fun k hk => ?_)
  obtain ⟨b, off, e, h0⟩ := h k hk
  refine ⟨b, off, conVal (xs.getD k default), e, h0, fun j x hx => ?_⟩
  match j with
  | 0 => simp [conL] at hx; subst hx; exact .sc _
  | 1 => simp [conL] at hx; subst hx; exact .sc _
  | 2 => simp [conL] at hx; subst hx; exact .sc _
  | j + 3 => simp [conL] at hx
theorem sales_in {w : World} {a : Option Addr} {c : Nat} {xs : List SalC} (h : SalsAt w a xs) : Tl.TRel w (fun b => b < w.heap.size) (salcT false xs) (.slice a xs.length c) := by
  refine sl_in (fun _ _ => rfl) (by omega) (fun k hk => ?_)
  obtain ⟨b, off, e, h0⟩ := h k hk
  refine ⟨b, off, salVal (xs.getD k default), e, h0, fun j x hx => ?_⟩
  match j with
  | 0 => simp [salcL] at hx; subst hx; exact .sc _
  | 1 => simp [salcL] at hx; subst hx; exact .sc _
  | 2 => simp [salcL] at hx; subst hx; exact .sc _
  | j + 3 => simp [salcL] at hx
theorem market_in {w : World} {a a' : Option Addr} {c c' : Nat} {m : MktD} (h : HousAt w a m.hou) (h' : ConsAt w a' m.con) : VRel w (fun b => b < w.heap.size) (mktA false false m) (.agg #[.int .i64 m.ex, .slice a m.hou.length c, .slice a' m.con.length c']) :=
  ag_rel (vs := [_, _, _]) (rels_cons (.v _) (rels_cons (.t (hous_in h)) (rels_cons (.t (cons_in h')) rels_nil)))
theorem con_in {w : World} {S : Nat → Prop} (o : ConD) : VRel w S (conA o) (.agg #[.int .i64 o.sh, .int .i64 o.lg, .int .i64 o.n]) :=
  ag_rel (vs := [_, _, _]) (rels_cons (.v _) (rels_cons (.v _) (rels_cons (.v _) rels_nil)))
end Go.Proofs.Ytallicfckbdeaaa
