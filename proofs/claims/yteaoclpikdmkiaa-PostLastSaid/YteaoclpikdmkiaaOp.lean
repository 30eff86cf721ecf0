/- Posts, orders and sales that came in, opened as plain data. -/
import Derived.Test.YteaoclpikdmkiaaNb
namespace Go.Proofs.Yteaoclpikdmkiaa
open Go Go.RowKit Go.ChangeShapes Go.Tl
set_option linter.unusedVariables false
set_option linter.unusedSimpArgs false
set_option maxRecDepth 100000
def ordVal (o : OrdD) (j : Nat) : Value := if j = 0 then .bool o.buy else if j = 1 then .int .i64 o.lim else if j = 2 then .int .i64 o.num else if j = 3 then .int .i64 o.lo else .int .i64 o.hi
def saleVal (s : SaleD) (j : Nat) : Value := if j = 0 then .int .i64 s.buyer else if j = 1 then .int .i64 s.seller else if j = 2 then .int .i64 s.num else .int .i64 s.price
def OrdsAt (w : World) (a : Option Addr) (os : List OrdD) : Prop :=
  ∀ k, k < os.length → ∃ b off, a = some ⟨b, off, none⟩ ∧ ∀ j, j < 5 → w.cell? ⟨b, off + k * 5 + j, none⟩ = some (ordVal (os.getD k default) j)
def SalesAt (w : World) (a : Option Addr) (l : List SaleD) : Prop :=
  ∀ k, k < l.length → ∃ b off, a = some ⟨b, off, none⟩ ∧ ∀ j, j < 4 → w.cell? ⟨b, off + k * 4 + j, none⟩ = some (saleVal (l.getD k default) j)
theorem tcells3 : Try.prog.cellsOf 3 = 1 := by kernel_rfl
theorem tcells4 : Try.prog.cellsOf 4 = 1 := by kernel_rfl
theorem tcells5 : Try.prog.cellsOf 5 = 1 := by kernel_rfl
theorem tcells22 : Try.prog.cellsOf 22 = 1 := by kernel_rfl
theorem tcells24 : Try.prog.cellsOf 24 = 1 := by kernel_rfl
theorem tcells56 : Try.prog.cellsOf 56 = 2 := by kernel_rfl
theorem tcells58 : Try.prog.cellsOf 58 = 5 := by kernel_rfl
theorem tcells94 : Try.prog.cellsOf 94 = 4 := by kernel_rfl
section
variable {P : Program} {H : Type} {enc : TypeId × Value → H} {w : World} {base : Nat} {spare : Nat → Bool} {held : Bool}
theorem trod_struct1 {t : TypeId} {f0 : Field} {fuel : Nat} {cs : List Value} {x : DataW H × List MemPlace} (ht : P.underlying t = some (.struct #[f0])) (h : DataW.trod enc P w base spare held fuel t cs = some x) :
    ∃ y0 n, cs.length = P.cellsOf t ∧ DataW.trod enc P w base spare held n f0.type ((cs.drop f0.offset).take (P.cellsOf f0.type)) = some y0 := by
  obtain ⟨xs, n, _, rfl, hl, hlen, hf⟩ := DataW.trod_struct ht h
  match xs, hlen with
  | [y0], _ => exact ⟨y0, n, hl, by simpa using hf 0 f0 rfl⟩
theorem trod_struct2' {t : TypeId} {f0 f1 : Field} {fuel : Nat} {cs : List Value} {x : DataW H × List MemPlace} (ht : P.underlying t = some (.struct #[f0, f1])) (h : DataW.trod enc P w base spare held fuel t cs = some x) :
    ∃ y0 y1 n, cs.length = P.cellsOf t ∧ DataW.trod enc P w base spare held n f0.type ((cs.drop f0.offset).take (P.cellsOf f0.type)) = some y0 ∧
      DataW.trod enc P w base spare held n f1.type ((cs.drop f1.offset).take (P.cellsOf f1.type)) = some y1 := by
  obtain ⟨xs, n, _, rfl, hl, hlen, hf⟩ := DataW.trod_struct ht h
  match xs, hlen with
  | [y0, y1], _ => exact ⟨y0, y1, n, hl, by simpa using hf 0 f0 rfl, by simpa using hf 1 f1 rfl⟩
theorem trod_struct4 {t : TypeId} {f0 f1 f2 f3 : Field} {fuel : Nat} {cs : List Value} {x : DataW H × List MemPlace} (ht : P.underlying t = some (.struct #[f0, f1, f2, f3])) (h : DataW.trod enc P w base spare held fuel t cs = some x) :
    ∃ y0 y1 y2 y3 n, cs.length = P.cellsOf t ∧ DataW.trod enc P w base spare held n f0.type ((cs.drop f0.offset).take (P.cellsOf f0.type)) = some y0 ∧
      DataW.trod enc P w base spare held n f1.type ((cs.drop f1.offset).take (P.cellsOf f1.type)) = some y1 ∧ DataW.trod enc P w base spare held n f2.type ((cs.drop f2.offset).take (P.cellsOf f2.type)) = some y2 ∧
      DataW.trod enc P w base spare held n f3.type ((cs.drop f3.offset).take (P.cellsOf f3.type)) = some y3 := by
  obtain ⟨xs, n, _, rfl, hl, hlen, hf⟩ := DataW.trod_struct ht h
  match xs, hlen with
  | [y0, y1, y2, y3], _ => exact ⟨y0, y1, y2, y3, n, hl, by simpa using hf 0 f0 rfl, by simpa using hf 1 f1 rfl, by simpa using hf 2 f2 rfl, by simpa using hf 3 f3 rfl⟩
end
section
variable {H : Type} {enc : TypeId × Value → H} {w : World} {base : Nat} {spare : Nat → Bool} {held : Bool}
theorem open_rng {fuel : Nat} {cs : List Value} {x : DataW H × List MemPlace} (h : DataW.trod enc Try.prog w base spare held fuel 56 cs = some x) : ∃ a b : Int, cs = [.int .i64 a, .int .i64 b] := by
  obtain ⟨y0, y1, n, hl, k0, k1⟩ := trod_struct2' Try.underlying56 h
  rw [tcells56] at hl
  match cs, hl with
  | [u, v], _ =>
    rw [tcells3] at k0 k1
    obtain ⟨a, e0, _, _⟩ := DataW.trod_int Try.underlying3 k0
    obtain ⟨b, e1, _, _⟩ := DataW.trod_int Try.underlying3 k1
    simp only [List.drop_zero, List.take_succ_cons, List.take_zero, List.cons.injEq, and_true] at e0
    simp only [List.drop_succ_cons, List.drop_zero, List.take_succ_cons, List.take_nil, List.take_zero, List.cons.injEq, and_true] at e1
    exact ⟨a, b, by rw [e0, e1]⟩
theorem open_ord {fuel : Nat} {cs : List Value} {x : DataW H × List MemPlace} (h : DataW.trod enc Try.prog w base spare held fuel 58 cs = some x) : ∃ o : OrdD, cs = [.bool o.buy, .int .i64 o.lim, .int .i64 o.num, .int .i64 o.lo, .int .i64 o.hi] := by
  obtain ⟨y0, y1, y2, y3, n, hl, k0, k1, k2, k3⟩ := trod_struct4 Try.underlying58 h
  rw [tcells58] at hl
  match cs, hl with
  | [u0, u1, u2, u3, u4], _ =>
    rw [tcells4] at k0
    rw [tcells3] at k1 k2
    rw [tcells56] at k3
    obtain ⟨b, e0, _⟩ := DataW.trod_bool Try.underlying4 k0
    obtain ⟨m1, e1, _, _⟩ := DataW.trod_int Try.underlying3 k1
    obtain ⟨m2, e2, _, _⟩ := DataW.trod_int Try.underlying3 k2
    obtain ⟨m3, m4, e3⟩ := open_rng k3
    simp only [List.drop_zero, List.take_succ_cons, List.take_zero, List.cons.injEq, and_true] at e0
    simp only [List.drop_succ_cons, List.drop_zero, List.take_succ_cons, List.take_nil, List.take_zero, List.cons.injEq, and_true] at e1 e2 e3
    exact ⟨⟨b, m1, m2, m3, m4⟩, by rw [e0, e1, e2, e3.1, e3.2]⟩
theorem open_ords {fuel : Nat} {cs : List Value} {x : DataW H × List MemPlace} (h : DataW.trod enc Try.prog w base spare held fuel 22 cs = some x) : ∃ (a : Option Addr) (c : Nat) (os : List OrdD), cs = [.slice a os.length c] ∧ os.length ≤ maxLen ∧ OrdsAt w a os := by
  obtain ⟨a, c, l, g1, g2, g3⟩ := open_slice (α := OrdD) (R := fun val r => ∀ j, j < 5 → val j = ordVal r j) Try.underlying22 tcells58 (by omega) (fun fuel cs y hy hl => by
    obtain ⟨o, rfl⟩ := open_ord hy
    refine ⟨o, fun j hj => ?_⟩
    rcases (show j = 0 ∨ j = 1 ∨ j = 2 ∨ j = 3 ∨ j = 4 by omega) with rfl | rfl | rfl | rfl | rfl <;> rfl) h
  refine ⟨a, c, l, g1, g2, fun k hk => ?_⟩
  obtain ⟨b, off, val, e, g, r⟩ := g3 k hk
  exact ⟨b, off, e, fun j hj => by rw [g j hj, r j hj]⟩
theorem open_post {fuel : Nat} {cs : List Value} {x : DataW H × List MemPlace} (h : DataW.trod enc Try.prog w base spare held fuel 24 cs = some x) :
    ∃ (p : PostD) (a : Option Addr) (c : Nat), cs = [.slice a p.ords.length c] ∧ p.ords.length ≤ maxLen ∧ OrdsAt w a p.ords := by
  obtain ⟨y0, n, hl, k0⟩ := trod_struct1 Try.underlying24 h
  rw [tcells24] at hl
  match cs, hl with
  | [u], _ =>
    rw [tcells22] at k0
    obtain ⟨a, c, os, e0, hd, hD⟩ := open_ords k0
    simp only [List.drop_zero, List.take_succ_cons, List.take_zero, List.cons.injEq, and_true] at e0
    exact ⟨⟨os⟩, a, c, by rw [e0], hd, hD⟩
theorem open_sale {fuel : Nat} {cs : List Value} {x : DataW H × List MemPlace} (h : DataW.trod enc Try.prog w base spare held fuel 94 cs = some x) : ∃ s : SaleD, cs = [.int .i64 s.buyer, .int .i64 s.seller, .int .i64 s.num, .int .i64 s.price] := by
  obtain ⟨y0, y1, y2, y3, n, hl, k0, k1, k2, k3⟩ := trod_struct4 Try.underlying94 h
  rw [tcells94] at hl
  match cs, hl with
  | [u0, u1, u2, u3], _ =>
    rw [tcells3] at k0 k1 k2 k3
    obtain ⟨m0, e0, _, _⟩ := DataW.trod_int Try.underlying3 k0
    obtain ⟨m1, e1, _, _⟩ := DataW.trod_int Try.underlying3 k1
    obtain ⟨m2, e2, _, _⟩ := DataW.trod_int Try.underlying3 k2
    obtain ⟨m3, e3, _, _⟩ := DataW.trod_int Try.underlying3 k3
    simp only [List.drop_zero, List.take_succ_cons, List.take_zero, List.cons.injEq, and_true] at e0
    simp only [List.drop_succ_cons, List.drop_zero, List.take_succ_cons, List.take_nil, List.take_zero, List.cons.injEq, and_true] at e1 e2 e3
    exact ⟨⟨m0, m1, m2, m3⟩, by rw [e0, e1, e2, e3]⟩
theorem open_sales {fuel : Nat} {cs : List Value} {x : DataW H × List MemPlace} (h : DataW.trod enc Try.prog w base spare held fuel 41 cs = some x) : ∃ (a : Option Addr) (c : Nat) (l : List SaleD), cs = [.slice a l.length c] ∧ l.length ≤ maxLen ∧ SalesAt w a l := by
  obtain ⟨a, c, l, g1, g2, g3⟩ := open_slice (α := SaleD) (R := fun val r => ∀ j, j < 4 → val j = saleVal r j) Try.underlying41 tcells94 (by omega) (fun fuel cs y hy hl => by
    obtain ⟨o, rfl⟩ := open_sale hy
    refine ⟨o, fun j hj => ?_⟩
    rcases (show j = 0 ∨ j = 1 ∨ j = 2 ∨ j = 3 by omega) with rfl | rfl | rfl | rfl <;> rfl) h
  refine ⟨a, c, l, g1, g2, fun k hk => ?_⟩
  obtain ⟨b, off, val, e, g, r⟩ := g3 k hk
  exact ⟨b, off, e, fun j hj => by rw [g j hj, r j hj]⟩
end
theorem ords_in {w : World} {a : Option Addr} {c : Nat} {xs : List OrdD} (h : OrdsAt w a xs) : Tl.TRel w (fun b => b < w.heap.size) (ordsT false xs) (.slice a xs.length c) := by
  refine sl_in (fun _ _ => rfl) (by omega) (fun k hk => ?_)
  obtain ⟨b, off, e, h0⟩ := h k hk
  refine ⟨b, off, ordVal (xs.getD k default), e, h0, fun j x hx => ?_⟩
  match j with
  | 0 => simp [ordL] at hx; subst hx; exact .sc _
  | 1 => simp [ordL] at hx; subst hx; exact .sc _
  | 2 => simp [ordL] at hx; subst hx; exact .sc _
  | 3 => simp [ordL] at hx; subst hx; exact .sc _
  | 4 => simp [ordL] at hx; subst hx; exact .sc _
  | j + 5 => simp [ordL] at hx
theorem post_in {w : World} {a : Option Addr} {c : Nat} {p : PostD} (h : OrdsAt w a p.ords) : VRel w (fun b => b < w.heap.size) (postA false p) (.agg #[.slice a p.ords.length c]) :=
  ag_rel (vs := [_]) (rels_cons (.t (ords_in h)) rels_nil)
theorem sales_in {w : World} {a : Option Addr} {c : Nat} {xs : List SaleD} (h : SalesAt w a xs) : Tl.TRel w (fun b => b < w.heap.size) (salesT false xs) (.slice a xs.length c) := by
  refine sl_in (fun _ _ => rfl) (by omega) (fun k hk => ?_)
  obtain ⟨b, off, e, h0⟩ := h k hk
  refine ⟨b, off, saleVal (xs.getD k default), e, h0, fun j x hx => ?_⟩
  match j with
  | 0 => simp [saleL] at hx; subst hx; exact .sc _
  | 1 => simp [saleL] at hx; subst hx; exact .sc _
  | 2 => simp [saleL] at hx; subst hx; exact .sc _
  | 3 => simp [saleL] at hx; subst hx; exact .sc _
  | j + 4 => simp [saleL] at hx
theorem ord_in {w : World} {S : Nat → Prop} (o : OrdD) : VRel w S (ordA o) (.agg #[.bool o.buy, .int .i64 o.lim, .int .i64 o.num, .int .i64 o.lo, .int .i64 o.hi]) :=
  ag_rel (vs := [_, _, _, _, _]) (rels_cons (.v _) (rels_cons (.v _) (rels_cons (.v _) (rels_cons (.v _) (rels_cons (.v _) rels_nil)))))
end Go.Proofs.Yteaoclpikdmkiaa
