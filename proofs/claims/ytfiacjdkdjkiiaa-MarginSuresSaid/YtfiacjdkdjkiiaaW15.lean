/- The walk over work.state. -/
import Derived.Test.YtfiacjdkdjkiiaaW14
import Derived.Test.YtfiacjdkdjkiiaaGBs
namespace Go.Proofs.Ytfiacjdkdjkiiaa
open Go.RowKit
set_option linter.unusedVariables false
set_option linter.unusedSimpArgs false
attribute [local go_sem ↓] Go.wp_at_zero Go.wp_at_succ

/-- arrays of four prices -/
def ArrsAt (w : World) (a : Option Addr) (ps : List (List Int)) : Prop :=
  ∀ k, k < ps.length → ∃ b off, a = some ⟨b, off, none⟩ ∧ w.cell? ⟨b, off + k * 4, none⟩ = some (.int .i64 ((ps.getD k []).getD 0 0)) ∧ w.cell? ⟨b, off + k * 4 + 1, none⟩ = some (.int .i64 ((ps.getD k []).getD 1 0)) ∧
    w.cell? ⟨b, off + k * 4 + 2, none⟩ = some (.int .i64 ((ps.getD k []).getD 2 0)) ∧ w.cell? ⟨b, off + k * 4 + 3, none⟩ = some (.int .i64 ((ps.getD k []).getD 3 0))

theorem ArrsAt.get {w : World} {a : Option Addr} {ps : List (List Int)} (h : ArrsAt w a ps) (k : Nat) (hk : k < ps.length) : ∃ b off a0 a1 a2 a3, a = some ⟨b, off, none⟩ ∧ Hid (arr4 (ps.getD k []) = #[.int .i64 a0, .int .i64 a1, .int .i64 a2, .int .i64 a3]) ∧ Hid (pad4 (ps.getD k []) = [a0, a1, a2, a3]) ∧
    w.cell? ⟨b, off + k * 4, none⟩ = some (.int .i64 a0) ∧ w.cell? ⟨b, off + k * 4 + 1, none⟩ = some (.int .i64 a1) ∧ w.cell? ⟨b, off + k * 4 + 2, none⟩ = some (.int .i64 a2) ∧ w.cell? ⟨b, off + k * 4 + 3, none⟩ = some (.int .i64 a3) := by
  obtain ⟨b, off, e, c0, c1, c2, c3⟩ := h k hk
  exact ⟨b, off, _, _, _, _, e, rfl, rfl, c0, c1, c2, c3⟩
/-- a bank at work -/
structure WorkAt (w : World) (bw B : Nat) (ls : List LoanD) (ps : List (List Int)) (rs : List Int) (st : Int) (da la aa ra : Option Addr) (nd dc lc ac rc : Nat) : Prop where
  box : w.heap[bw]? = some (.cells #[.int .i64 st, .slice da nd dc, .slice la ls.length lc, .slice aa ps.length ac, .slice ra rs.length rc, .map (some B)] 150 (0, 0))
  loans : LoansAt w la ls
  arrs : ArrsAt w aa ps
  rates : IntsAt w ra rs
  map : MapAt w B (allSt ls ps rs)

/-- everything but the map's block is as it was -/
theorem cell_map {w W : World} {B : Nat} {f : Nat → Nat → St} {p : Addr} {v : Value} (hm : MapAt w B f) (hg : w.grownBy W (some B)) (h : w.cell? p = some v) : W.cell? p = some v := by
  refine hg.cell h (fun e => ?_)
  obtain ⟨es, cl, hb, _⟩ := hm
  simp only [Option.some.injEq] at e
  rw [← e] at hb
  simp [World.cell?, hb] at h
theorem heap_map {w W : World} {B b : Nat} {f : Nat → Nat → St} {cs : Array Value} {T : TypeId} {fr : Nat × Nat} (hm : MapAt w B f) (hg : w.grownBy W (some B)) (h : w.heap[b]? = some (.cells cs T fr)) : W.heap[b]? = some (.cells cs T fr) := by
  rw [hg.block b (heap_lt h) (fun e => ?_)]
  · exact h
  · obtain ⟨es, cl, hb, _⟩ := hm
    simp only [Option.some.injEq] at e
    rw [← e, h] at hb
    cases hb
theorem IntsAt.map {w W : World} {B : Nat} {f : Nat → Nat → St} {a : Option Addr} {xs : List Int} (h : IntsAt w a xs) (hm : MapAt w B f) (hg : w.grownBy W (some B)) : IntsAt W a xs := fun k hk => by
  obtain ⟨b, off, e, c⟩ := h k hk
  exact ⟨b, off, e, cell_map hm hg c⟩
theorem LoansAt.map {w W : World} {B : Nat} {f : Nat → Nat → St} {a : Option Addr} {xs : List LoanD} (h : LoansAt w a xs) (hm : MapAt w B f) (hg : w.grownBy W (some B)) : LoansAt W a xs := fun k hk => by
  obtain ⟨b, off, pa, pc, e, c1, c2, c3, d⟩ := h k hk
  exact ⟨b, off, pa, pc, e, cell_map hm hg c1, cell_map hm hg c2, cell_map hm hg c3, d.map hm hg⟩
theorem ArrsAt.map {w W : World} {B : Nat} {f : Nat → Nat → St} {a : Option Addr} {xs : List (List Int)} (h : ArrsAt w a xs) (hm : MapAt w B f) (hg : w.grownBy W (some B)) : ArrsAt W a xs := fun k hk => by
  obtain ⟨b, off, e, c0, c1, c2, c3⟩ := h k hk
  exact ⟨b, off, e, cell_map hm hg c0, cell_map hm hg c1, cell_map hm hg c2, cell_map hm hg c3⟩
theorem ArrsAt.below {w w' : World} {a : Option Addr} {xs : List (List Int)} (h : ArrsAt w a xs) (hb : Below w.heap.size w w') : ArrsAt w' a xs := fun k hk => by
  obtain ⟨b, off, e, c0, c1, c2, c3⟩ := h k hk
  exact ⟨b, off, e, cell_below hb c0, cell_below hb c1, cell_below hb c2, cell_below hb c3⟩
theorem MapAt.below {w w' : World} {B : Nat} {f : Nat → Nat → St} (h : MapAt w B f) (hb : Below w.heap.size w w') : MapAt w' B f := by
  obtain ⟨es, cl, h1, h2⟩ := h
  exact ⟨es, cl, heap_of_below hb h1, h2⟩
theorem WorkAt.below {w w' : World} {bw B : Nat} {ls : List LoanD} {ps : List (List Int)} {rs : List Int} {st : Int} {da la aa ra : Option Addr} {nd dc lc ac rc : Nat} (h : WorkAt w bw B ls ps rs st da la aa ra nd dc lc ac rc) (hb : Below w.heap.size w w') : WorkAt w' bw B ls ps rs st da la aa ra nd dc lc ac rc :=
  ⟨heap_of_below hb h.box, h.loans.below hb, h.arrs.below hb, h.rates.below hb, h.map.below hb⟩
theorem WorkAt.move {w w' : World} {bw B : Nat} {ls : List LoanD} {ps : List (List Int)} {rs : List Int} {st : Int} {da la aa ra : Option Addr} {nd dc lc ac rc : Nat} (h : WorkAt w bw B ls ps rs st da la aa ra nd dc lc ac rc) (hg : w.grownBy w' (some B)) (hm : MapAt w' B (allSt ls ps rs)) : WorkAt w' bw B ls ps rs st da la aa ra nd dc lc ac rc :=
  ⟨heap_map h.map hg h.box, h.loans.map h.map hg, h.arrs.map h.map hg, h.rates.map h.map hg, hm⟩
theorem MapAt.put {w : World} {B b : Nat} {f : Nat → Nat → St} {cs : Array Value} {T : TypeId} {fr : Nat × Nat} {k : Nat} {sp : Option Nat} {u : Value} (h : MapAt w B f) (hb : w.heap[b]? = some (.cells cs T fr)) : MapAt (w.setCell ⟨b, k, sp⟩ u) B f := by
  obtain ⟨es, cl, h1, h2⟩ := h
  refine ⟨es, cl, ?_, h2⟩
  rw [Below.heap_setCell _ _ _ _ (fun e => ?_)]
  · exact h1
  · simp only at e
    rw [e, hb] at h1
    cases h1
theorem MapAt.lt {w : World} {B : Nat} {f : Nat → Nat → St} (h : MapAt w B f) : B < w.heap.size := by
  obtain ⟨es, cl, h1, h2⟩ := h
  exact heap_lt h1

theorem ret_grown {w W : World} {B nr : Nat} {u v x : Value} (hg : w.grownBy W (some B)) (hr : w.heap.size ≤ nr) : w.grownBy (((W.setCell ⟨nr, 0, none⟩ u).setCell ⟨nr, 1, none⟩ v).setCell ⟨nr, 2, none⟩ x) (some B) :=
  ⟨hg.os, hg.tape, hg.output, by have := hg.size; simpa using this, fun b hb hne => by
    rw [Below.heap_setCell _ _ _ _ (by simp; omega), Below.heap_setCell _ _ _ _ (by simp; omega), Below.heap_setCell _ _ _ _ (by simp; omega)]
    exact hg.block b hb hne⟩
/-- what state's call has made -/
structure SRel (w W : World) (B i n : Nat) (f : Nat → Nat → St) (hs hr hx hl : Nat) (x0 x1 x2 : Int) (l : LoanD) (sa : Option Addr) (sc : Nat) : Prop where
  g : w.grownBy W (some B)
  lo : w.heap.size ≤ hs ∧ hs < hr ∧ hr < hx ∧ hx < hl
  s : W.heap[hs]? = some (.cells #[.int .i64 i, .int .i64 n] 120 (0, 0))
  r : W.heap[hr]? = some (.cells #[.int .i64 0, .int .i64 0, .int .i64 0] 117 (0, 0))
  x : W.heap[hx]? = some (.cells #[.int .i64 x0, .int .i64 x1, .int .i64 x2] 117 (0, 0))
  l : W.heap[hl]? = some (.cells #[.int .i64 l.money, .int .i64 l.margin, .slice sa l.shares.length sc] 109 (0, 0))
  m : MapAt W B f
theorem grown_trans {a b c : World} {row : Option Nat} (h : a.grownBy b row) (k : b.grownBy c row) : a.grownBy c row :=
  ⟨k.os.trans h.os, k.tape.trans h.tape, k.output.trans h.output, Nat.le_trans h.size k.size, fun i hi hne => (k.block i (Nat.lt_of_lt_of_le hi h.size) hne).trans (h.block i hi hne)⟩
theorem only_of_below {a w : World} (h : Below a.heap.size a w) (row : Option Nat) : a.grownBy w row := ⟨h.os, h.tape, h.output, h.size, fun i hi _ => h.block i hi⟩
theorem SRel.below {w W W' : World} {B i n hs hr hx hl : Nat} {f : Nat → Nat → St} {x0 x1 x2 : Int} {l : LoanD} {sa : Option Addr} {sc : Nat} (h : SRel w W B i n f hs hr hx hl x0 x1 x2 l sa sc) (hb : Below W.heap.size W W') : SRel w W' B i n f hs hr hx hl x0 x1 x2 l sa sc :=
  ⟨grown_trans h.g (only_of_below hb _), h.lo, heap_of_below hb h.s, heap_of_below hb h.r, heap_of_below hb h.x, heap_of_below hb h.l, h.m.below hb⟩
theorem SRel.drew {w W : World} {B i n hs hr hx hl : Nat} {f : Nat → Nat → St} {x0 x1 x2 : Int} {l : LoanD} {sa : Option Addr} {sc : Nat} (h : SRel w W B i n f hs hr hx hl x0 x1 x2 l sa sc) : SRel w W.drew B i n f hs hr hx hl x0 x1 x2 l sa sc := h.below (Below.refl _ _).drew
theorem SRel.drewN {w W : World} {B i n q hs hr hx hl : Nat} {f : Nat → Nat → St} {x0 x1 x2 : Int} {l : LoanD} {sa : Option Addr} {sc : Nat} (h : SRel w W B i n f hs hr hx hl x0 x1 x2 l sa sc) : SRel w (W.drewN q) B i n f hs hr hx hl x0 x1 x2 l sa sc := h.below (below_drewN' (Below.refl _ _) _)
theorem SRel.move {w W W' : World} {B i n hs hr hx hl : Nat} {f : Nat → Nat → St} {x0 x1 x2 : Int} {l : LoanD} {sa : Option Addr} {sc : Nat} (h : SRel w W B i n f hs hr hx hl x0 x1 x2 l sa sc) (hg : W.grownBy W' (some B)) (hm : MapAt W' B f) : SRel w W' B i n f hs hr hx hl x0 x1 x2 l sa sc :=
  ⟨grown_trans h.g hg, h.lo, heap_map h.m hg h.s, heap_map h.m hg h.r, heap_map h.m hg h.x, heap_map h.m hg h.l, hm⟩
theorem SRel.set {w W : World} {B i n hs hr hx hl : Nat} {f : Nat → Nat → St} {x0 x1 x2 y0 y1 y2 : Int} {l : LoanD} {sa : Option Addr} {sc k : Nat} {u : Value} (h : SRel w W B i n f hs hr hx hl x0 x1 x2 l sa sc)
    (hu : (#[.int .i64 x0, .int .i64 x1, .int .i64 x2] : Array Value).setIfInBounds k u = #[.int .i64 y0, .int .i64 y1, .int .i64 y2]) : SRel w (W.setCell ⟨hx, k, none⟩ u) B i n f hs hr hx hl y0 y1 y2 l sa sc := by
  have hlo := h.lo
  refine ⟨⟨h.g.os, h.g.tape, h.g.output, ?_, ?_⟩, hlo, ?_, ?_, ?_, ?_, h.m.put h.x⟩
  · have := h.g.size; simpa using this
  · intro b hb hne
    rw [Below.heap_setCell _ _ _ _ (by simp; omega)]
    exact h.g.block b hb hne
  · rw [Below.heap_setCell _ _ _ _ (by simp; omega)]; exact h.s
  · rw [Below.heap_setCell _ _ _ _ (by simp; omega)]; exact h.r
  · rw [heap_setCell_same _ _ _ _ _ _ h.x, hu]
  · rw [Below.heap_setCell _ _ _ _ (by simp; omega)]; exact h.l
theorem al_new {w : World} {o : Obj} {n : Nat} (hn : n = w.heap.size) : (w.alloc o).heap[n]? = some o := by subst hn; exact heap_alloc_new _ _
theorem al_old {w : World} {o x : Obj} {n : Nat} (h : w.heap[n]? = some x) : (w.alloc o).heap[n]? = some x := (Below.heap_alloc _ _ _ (heap_lt h)).trans h
theorem srel_start {w : World} {B i n : Nat} {f : Nat → Nat → St} {l : LoanD} {sa : Option Addr} {sc : Nat} (hm : MapAt w B f) :
    SRel w (((((w.alloc (.cells #[.int .i64 i, .int .i64 n] 120)).alloc (.cells #[.int .i64 0, .int .i64 0, .int .i64 0] 117)).alloc (.cells #[.int .i64 0, .int .i64 0, .int .i64 0] 117)).alloc (.cells #[.int .i64 l.money, .int .i64 l.margin, .slice sa l.shares.length sc] 109)).drew.drew) B i n f
      w.heap.size (w.heap.size + 1) (w.heap.size + 1 + 1) (w.heap.size + 1 + 1 + 1) 0 0 0 l sa sc := by
  have hb : Below w.heap.size w (((((w.alloc (.cells #[.int .i64 i, .int .i64 n] 120)).alloc (.cells #[.int .i64 0, .int .i64 0, .int .i64 0] 117)).alloc (.cells #[.int .i64 0, .int .i64 0, .int .i64 0] 117)).alloc (.cells #[.int .i64 l.money, .int .i64 l.margin, .slice sa l.shares.length sc] 109)).drew.drew) :=
    (((((Below.refl _ _).alloc (Nat.le_refl _) _).alloc (by simp) _).alloc (by simp; omega) _).alloc (by simp; omega) _).drew.drew
  exact ⟨only_of_below hb _, by omega, al_old (al_old (al_old (al_new rfl))), al_old (al_old (al_new (by simp))), al_old (al_new (by simp)), al_new (by simp), hm.below hb⟩
end Go.Proofs.Ytfiacjdkdjkiiaa
