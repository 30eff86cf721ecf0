/- Lists that a call builds itself, element by element, by append: what is owned, and what it stands for. -/
import Derived.Test.YtfiacjdkdjkiiaaGWb
import Derived.Deep.RegionHeld3
namespace Go.Proofs.Ytfiacjdkdjkiiaa
open Go.RowKit
set_option linter.unusedVariables false

/-- a kind of elements: the numbers of their type and of their slices' type, and when cells stand for an element -/
structure Kd (α : Type) where
  E : TypeId
  T : TypeId
  size : Nat
  bytes : Nat
  z : Value
  d : α
  rel : World → α → List Value → Prop
  blk : List Value → Nat → Prop
  hT : Try.prog.underlying T = some (.slice E)
  hinfo : (Try.prog.info? E).map (fun i => (i.zero, i.size, i.bytes)) = some (some z, size, bytes)
  hz : z.cells.size = size
  hpos : 0 < size
  hbytes : bytes ≤ 1000
  len : ∀ {w x cs}, rel w x cs → cs.length = size
  one : ∀ {w x cs}, rel w x cs → ∀ u ∈ cs, u.oneCell' = true
  keep : ∀ {w w' x cs}, rel w x cs → (∀ b, blk cs b → w'.heap[b]? = w.heap[b]?) → rel w' x cs

def OwnL {α : Type} (K : Kd α) (w : World) (base : Nat) (v : Value) (xs : List α) : Prop :=
  ∃ css : List (List Value), css.length = xs.length ∧ w.ownsRow base K.E K.size v xs.length css.flatten ∧
    ∀ k, k < xs.length → K.rel w (xs.getD k K.d) (css.getD k []) ∧ ∀ b, K.blk (css.getD k []) b → v.ownBlock ≠ some b ∧ base ≤ b ∧ b < w.heap.size

theorem OwnL.nil {α : Type} (K : Kd α) (w : World) (base : Nat) : OwnL K w base (.slice none 0 0) [] :=
  ⟨[], rfl, ⟨by simp, .inl ⟨rfl, rfl⟩⟩, fun k hk => absurd hk (by simp)⟩

theorem own_kept {w w' : World} {base : Nat} {e : TypeId} {size : Nat} {v : Value} {n : Nat} {xs : List Value} (h : w.ownsRow base e size v n xs) (hb : ∀ b, v.ownBlock = some b → w'.heap[b]? = w.heap[b]?) : w'.ownsRow base e size v n xs := by
  refine ⟨h.1, ?_⟩
  rcases h.2 with hn | ⟨g, cap, cur, rfl, hbb, hgg, rest⟩
  · exact .inl hn
  · exact .inr ⟨g, cap, cur, rfl, hbb, by rw [hb g rfl]; exact hgg, rest⟩

/-- it stays so while its own blocks stay -/
theorem OwnL.keep {α : Type} {K : Kd α} {w w' : World} {base : Nat} {v : Value} {xs : List α} (h : OwnL K w base v xs) (hs : w.heap.size ≤ w'.heap.size)
    (hb : ∀ b, base ≤ b → b < w.heap.size → w'.heap[b]? = w.heap[b]?) : OwnL K w' base v xs := by
  obtain ⟨css, hl, ho, hk⟩ := h
  refine ⟨css, hl, own_kept ho (fun b e => hb b (ho.lt b e).1 (ho.lt b e).2), fun k hk' => ?_⟩
  obtain ⟨h1, h2⟩ := hk k hk'
  exact ⟨K.keep h1 (fun b hb' => hb b (h2 b hb').2.1 (h2 b hb').2.2), fun b hb' => ⟨(h2 b hb').1, (h2 b hb').2.1, Nat.lt_of_lt_of_le (h2 b hb').2.2 hs⟩⟩
theorem OwnL.below {α : Type} {K : Kd α} {w w' : World} {base : Nat} {v : Value} {xs : List α} (h : OwnL K w base v xs) (hb : Below w.heap.size w w') : OwnL K w' base v xs :=
  h.keep hb.size (fun b _ hlt => hb.block b hlt)
theorem OwnL.alloc {α : Type} {K : Kd α} {w : World} {base : Nat} {v : Value} {xs : List α} (h : OwnL K w base v xs) (o : Obj) : OwnL K (w.alloc o) base v xs :=
  h.below ((Below.refl _ _).alloc (Nat.le_refl _) _)
theorem OwnL.drew {α : Type} {K : Kd α} {w : World} {base : Nat} {v : Value} {xs : List α} (h : OwnL K w base v xs) : OwnL K w.drew base v xs :=
  h.below (Below.refl _ _).drew
/-- a block that is none of it is written -/
theorem OwnL.grown {α : Type} {K : Kd α} {w w' : World} {base : Nat} {v : Value} {xs : List α} {row : Option Nat} (h : OwnL K w base v xs) (hg : w.grownBy w' row)
    (hr : ∀ g, row = some g → g < base ∨ (v.ownBlock ≠ some g ∧ K.blk = fun _ _ => False)) : OwnL K w' base v xs := by
  obtain ⟨css, hl, ho, hk⟩ := h
  refine ⟨css, hl, own_kept ho (fun b e => hg.block b (ho.lt b e).2 (fun e' => ?_)), fun k hk' => ?_⟩
  · rcases hr b e'.symm with h1 | h1
    · have := (ho.lt b e).1; omega
    · exact h1.1 e
  · obtain ⟨h1, h2⟩ := hk k hk'
    refine ⟨K.keep h1 (fun b hb' => hg.block b (h2 b hb').2.2 (fun e' => ?_)), fun b hb' => ⟨(h2 b hb').1, (h2 b hb').2.1, Nat.lt_of_lt_of_le (h2 b hb').2.2 hg.size⟩⟩
    rcases hr b e'.symm with h3 | h3
    · have := (h2 b hb').2.1; omega
    · rw [h3.2] at hb'; exact hb'
theorem OwnL.setCell {α : Type} {K : Kd α} {w : World} {base : Nat} {v : Value} {xs : List α} (h : OwnL K w base v xs) {p : Addr} (hp : p.block < base) (u : Value) : OwnL K (w.setCell p u) base v xs :=
  h.keep (by simp [World.setCell]) (fun b hb _ => Below.heap_setCell _ _ _ _ (by omega))
theorem OwnL.lt {α : Type} {K : Kd α} {w : World} {base : Nat} {v : Value} {xs : List α} (h : OwnL K w base v xs) : ∀ g, v.ownBlock = some g → base ≤ g ∧ g < w.heap.size := by
  obtain ⟨css, hl, ho, hk⟩ := h
  exact ho.lt
theorem OwnL.lower {α : Type} {K : Kd α} {w : World} {base base' : Nat} {v : Value} {xs : List α} (h : OwnL K w base v xs) (hb : base' ≤ base) : OwnL K w base' v xs := by
  obtain ⟨css, hl, ho, hk⟩ := h
  refine ⟨css, hl, ⟨ho.1, ?_⟩, fun k hk' => ⟨(hk k hk').1, fun b hb' => ⟨((hk k hk').2 b hb').1, Nat.le_trans hb ((hk k hk').2 b hb').2.1, ((hk k hk').2 b hb').2.2⟩⟩⟩
  rcases ho.2 with hn | ⟨g, cap, cur, hv, hg, rest⟩
  · exact .inl hn
  · exact .inr ⟨g, cap, cur, hv, Nat.le_trans hb hg, rest⟩
theorem OwnL.form {α : Type} {K : Kd α} {w : World} {base : Nat} {v : Value} {xs : List α} (h : OwnL K w base v xs) : ∃ a cap, v = .slice a xs.length cap ∧ (∀ ad, a = some ad → ad.off = 0 ∧ ad.spot = none ∧ base ≤ ad.block ∧ ad.block < w.heap.size ∧ v.ownBlock = some ad.block) := by
  obtain ⟨css, hl, ho, hk⟩ := h
  have hlt := ho.lt
  rcases ho.2 with ⟨rfl, h0⟩ | ⟨g, cap, cur, rfl, hb, hc, hn, hm, hs, ht⟩
  · exact ⟨none, 0, by rw [h0], fun ad e => by cases e⟩
  · refine ⟨some ⟨g, 0, none⟩, cap, rfl, fun ad e => ?_⟩
    simp only [Option.some.injEq] at e
    subst e
    exact ⟨rfl, rfl, hb, (hlt g rfl).2, rfl⟩

theorem flatten_len {css : List (List Value)} {sz : Nat} (h : ∀ k, k < css.length → (css.getD k []).length = sz) : css.flatten.length = css.length * sz := by
  induction css with
  | nil => simp
  | cons c css ih =>
    have h0 := h 0 (by simp)
    have h1 := ih (fun k hk => by simpa using h (k + 1) (by simpa using hk))
    simp at h0
    simp only [List.flatten_cons, List.length_append, h0, h1, List.length_cons, Nat.add_mul]; omega
theorem flatten_get {css : List (List Value)} {sz : Nat} (h : ∀ k, k < css.length → (css.getD k []).length = sz) (k j : Nat) (hk : k < css.length) (hj : j < sz) : css.flatten[k * sz + j]? = (css.getD k [])[j]? := by
  induction css generalizing k with
  | nil => simp at hk
  | cons c css ih =>
    have h0 := h 0 (by simp)
    simp at h0
    cases k with
    | zero => simp [List.getElem?_append, h0, hj]
    | succ k =>
      have h1 := ih (fun k hk => by simpa using h (k + 1) (by simpa using hk)) k (by simpa using hk)
      have e : (k + 1) * sz + j = sz + (k * sz + j) := by rw [Nat.add_mul]; omega
      rw [e, List.flatten_cons, List.getElem?_append_right (by omega), h0, Nat.add_sub_cancel_left, h1]
      simp

/-- its cells -/
theorem OwnL.cells {α : Type} {K : Kd α} {w : World} {base : Nat} {v : Value} {xs : List α} (h : OwnL K w base v xs) (k : Nat) (hk : k < xs.length) :
    ∃ g cap cs, v = .slice (some ⟨g, 0, none⟩) xs.length cap ∧ K.rel w (xs.getD k K.d) cs ∧ ∀ j, j < K.size → w.cell? ⟨g, k * K.size + j, none⟩ = cs[j]? := by
  obtain ⟨css, hl, ho, hkk⟩ := h
  have hc := @World.ownsRow.cells _ _ _ _ _ _ _ ho
  rcases ho.2 with ⟨rfl, h0⟩ | ⟨g, cap, cur, rfl, hb, hcc, hn, hm, hs, ht⟩
  · omega
  · refine ⟨g, cap, css.getD k [], rfl, (hkk k hk).1, fun j hj => ?_⟩
    have hlen : ∀ i, i < css.length → (css.getD i []).length = K.size := fun i hi => K.len (hkk i (by omega)).1
    have h1 := flatten_get hlen k j (by omega) hj
    have h2 : (css.getD k [])[j]? = some ((css.getD k [])[j]'(by rw [hlen k (by omega)]; exact hj)) := List.getElem?_eq_getElem _
    have h3 := hc (g := g) rfl (k * K.size + j) _ (h1.trans h2)
    have e : ((⟨g, 0, none⟩ : Addr).add (k * K.size + j)) = ⟨g, 0 + (k * K.size + j), none⟩ := by unfold Addr.add; split <;> simp_all
    rw [e, Nat.zero_add] at h3
    rw [h2]; exact h3

/-- one element more -/
theorem OwnL.snoc {α : Type} {K : Kd α} {w w1 : World} {base : Nat} {v : Value} {xs : List α} {x : α} {cs : List Value} {g cap : Nat} (h : OwnL K w base v xs) (hx : K.rel w x cs)
    (hin : ∀ b, K.blk cs b → v.ownBlock ≠ some b ∧ base ≤ b ∧ b < w.heap.size) {css : List (List Value)} (hl : css.length = xs.length)
    (hk : ∀ k, k < xs.length → K.rel w (xs.getD k K.d) (css.getD k []) ∧ ∀ b, K.blk (css.getD k []) b → v.ownBlock ≠ some b ∧ base ≤ b ∧ b < w.heap.size)
    (ho : w1.ownsRow base K.E K.size (.slice (some ⟨g, 0, none⟩) (xs.length + 1) cap) (xs.length + 1) (css.flatten ++ cs))
    (hg : w.grownBy w1 v.ownBlock) (hat : v.ownBlock = some g ∨ g = w.heap.size) : OwnL K w1 base (.slice (some ⟨g, 0, none⟩) (xs.length + 1) cap) (xs ++ [x]) := by
  refine ⟨css ++ [cs], by simp [hl], by simpa using ho, fun k hk' => ?_⟩
  have hsz := hg.size
  have key : ∀ y c, K.rel w y c → (∀ b, K.blk c b → v.ownBlock ≠ some b ∧ base ≤ b ∧ b < w.heap.size) → K.rel w1 y c ∧ ∀ b, K.blk c b → Value.ownBlock (.slice (some ⟨g, 0, none⟩) (xs.length + 1) cap) ≠ some b ∧ base ≤ b ∧ b < w1.heap.size := by
    intro y c h1 h2
    refine ⟨K.keep h1 (fun b hb => hg.block b (h2 b hb).2.2 (fun e => (h2 b hb).1 e.symm)), fun b hb => ⟨?_, (h2 b hb).2.1, Nat.lt_of_lt_of_le (h2 b hb).2.2 hsz⟩⟩
    simp only [Value.ownBlock, ne_eq, Option.some.injEq]
    intro e
    subst e
    rcases hat with e | e
    · exact (h2 g hb).1 e
    · have := (h2 g hb).2.2; omega
  by_cases hlt : k < xs.length
  · have e1 : (xs ++ [x]).getD k K.d = xs.getD k K.d := by simp [List.getD_eq_getElem?_getD, List.getElem?_append, hlt]
    have e2 : (css ++ [cs]).getD k [] = css.getD k [] := by simp [List.getD_eq_getElem?_getD, List.getElem?_append, hl, hlt]
    rw [e1, e2]
    exact key _ _ (hk k hlt).1 (hk k hlt).2
  · have hk0 : k = xs.length := by simp at hk'; omega
    subst hk0
    have e1 : (xs ++ [x]).getD xs.length K.d = x := by simp [List.getD_eq_getElem?_getD]
    have e2 : (css ++ [cs]).getD xs.length [] = cs := by simp [List.getD_eq_getElem?_getD, ← hl]
    rw [e1, e2]
    exact key _ _ hx hin

section
variable {α : Type} {K : Kd α} {w : World}
/-- append of one element, in a plain region -/
theorem wpList_app {ops : Array Oper} {rest : List Oper} {o : Oper} {a : Act} {Q : Exit → Act → World → Prop} (hgd : o.guard = none) (s x : Operand)
    (ho : o.op = .call { callee := .builtin .append, args := #[s, x], argTypes := #[K.T, K.T] }) (base : Nat) (v : Value) (xs : List α) (n : Nat) (hlen : xs.length = n) (hs : a.eval s = v) (hown : OwnL K w base v xs)
    (B : Nat) (y : α) (cs : List Value) (hx : a.eval x = .slice (some ⟨B, 0, none⟩) 1 1) (hB : w.heap[B]? = some (.cells cs.toArray K.E (0, 0))) (hy : K.rel w y cs)
    (hin : ∀ b, K.blk cs b → v.ownBlock ≠ some b ∧ base ≤ b ∧ b < w.heap.size) (hn : n ≤ 100000) (hbase : base ≤ w.heap.size)
    (h : ∀ g cap w', OwnL K w' base (.slice (some ⟨g, 0, none⟩) (n + 1) cap) (xs ++ [y]) → w.grownBy w' v.ownBlock → (v.ownBlock = some g ∨ g = w.heap.size) → g < w'.heap.size →
      wpList Try.prog ops Q rest (a.put o.dst (.slice (some ⟨g, 0, none⟩) (n + 1) cap)) w') : wpList Try.prog ops Q (o :: rest) a w := by
  subst hlen
  obtain ⟨i0, hi0, hz0, hz1, hz2⟩ := info_parts K.hinfo
  obtain ⟨css, hl, hrow, hk⟩ := hown
  have hb := K.hbytes
  refine wpList_append_lies w hgd s x K.T ho base K.E i0 K.z K.size K.bytes K.hT hi0 hz0 hz1 hz2 K.hz K.hpos v xs.length css.flatten hs hrow ⟨B, 0, none⟩ 1 1 cs hx (by rw [K.len hy]; omega) (World.news_of_block hB) (K.one hy) (by omega) (by unfold maxLen; omega) ?_ hbase w.heap.size rfl ?_
  · calc (xs.length + 1) * K.bytes ≤ 100001 * 1000 := Nat.mul_le_mul (by omega) hb
      _ ≤ 140737488355328 := by omega
  · intro g cap w' h1 h2 h3 h4
    exact h g cap w' (OwnL.snoc (w := w) ⟨css, hl, hrow, hk⟩ hy hin hl hk h1 h2 h3) h2 h3 h4
/-- append of one element, at a step of a drawn region -/
theorem step_app {ops : Array Oper} {o : Oper} {a : Act} {C : Act → World → Prop} {Q : Exit → Act → World → Prop} {F : Prop} (hgd : o.guard = none) (s x : Operand)
    (ho : o.op = .call { callee := .builtin .append, args := #[s, x], argTypes := #[K.T, K.T] }) (base : Nat) (v : Value) (xs : List α) (n : Nat) (hlen : xs.length = n) (hs : a.eval s = v) (hown : OwnL K w base v xs)
    (B : Nat) (y : α) (cs : List Value) (hx : a.eval x = .slice (some ⟨B, 0, none⟩) 1 1) (hB : w.heap[B]? = some (.cells cs.toArray K.E (0, 0))) (hy : K.rel w y cs)
    (hin : ∀ b, K.blk cs b → v.ownBlock ≠ some b ∧ base ≤ b ∧ b < w.heap.size) (hn : n ≤ 100000) (hbase : base ≤ w.heap.size)
    (h : ∀ g cap w', OwnL K w' base (.slice (some ⟨g, 0, none⟩) (n + 1) cap) (xs ++ [y]) → w.grownBy w' v.ownBlock → (v.ownBlock = some g ∨ g = w.heap.size) → g < w'.heap.size →
      C (a.put o.dst (.slice (some ⟨g, 0, none⟩) (n + 1) cap)) w') : if Region.wanted o (yielded ops a.tmps) = true then Oper.wp Try.prog o a w C Q else F := by
  subst hlen
  obtain ⟨i0, hi0, hz0, hz1, hz2⟩ := info_parts K.hinfo
  obtain ⟨css, hl, hrow, hk⟩ := hown
  have hb := K.hbytes
  refine step_append_lies w hgd s x K.T ho base K.E i0 K.z K.size K.bytes K.hT hi0 hz0 hz1 hz2 K.hz K.hpos v xs.length css.flatten hs hrow ⟨B, 0, none⟩ 1 1 cs hx (by rw [K.len hy]; omega) (World.news_of_block hB) (K.one hy) (by omega) (by unfold maxLen; omega) ?_ hbase w.heap.size rfl ?_
  · calc (xs.length + 1) * K.bytes ≤ 100001 * 1000 := Nat.mul_le_mul (by omega) hb
      _ ≤ 140737488355328 := by omega
  · intro g cap w' h1 h2 h3 h4
    exact h g cap w' (OwnL.snoc (w := w) ⟨css, hl, hrow, hk⟩ hy hin hl hk h1 h2 h3) h2 h3 h4
end

theorem cell_al {w : World} {p : Addr} {v : Value} {o : Obj} (h : w.cell? p = some v) : (w.alloc o).cell? p = some v := cell_below ((Below.refl _ _).alloc (Nat.le_refl _) _) h
theorem cell_set {w : World} {p q : Addr} {v u : Value} (h : w.cell? p = some v) (hne : p.block ≠ q.block) : (w.setCell q u).cell? p = some v := by
  rw [← h]; exact World.cell?_of_block (w := w) (Below.heap_setCell _ _ _ _ hne)
theorem cell_grown {w w' : World} {p : Addr} {v : Value} {row : Option Nat} (hg : w.grownBy w' row) (h : w.cell? p = some v) (hne : some p.block ≠ row) : w'.cell? p = some v := hg.cell h hne
theorem frz_below {w w' : World} {p : Addr} {v : Value} (hb : Below w.heap.size w w') (h : w.cell? p = some v) (hf : w.frozen? p = false) : w'.frozen? p = false :=
  (hb.frozen (World.block_lt_of_cell? _ _ h)).trans hf
theorem frz_al {w : World} {p : Addr} {v : Value} {o : Obj} (h : w.cell? p = some v) (hf : w.frozen? p = false) : (w.alloc o).frozen? p = false := frz_below ((Below.refl _ _).alloc (Nat.le_refl _) _) h hf
theorem frz_grown {w w' : World} {p : Addr} {v : Value} {row : Option Nat} (hg : w.grownBy w' row) (h : w.cell? p = some v) (hf : w.frozen? p = false) (hne : some p.block ≠ row) : w'.frozen? p = false :=
  (World.frozen?_of_block (hg.block p.block (World.block_lt_of_cell? w p h) hne)).trans hf

/-! ### the kinds -/
def intK : Kd Int where
  E := 3
  T := 27
  size := 1
  bytes := 8
  z := .int .i64 0
  d := 0
  rel := fun _ x cs => cs = [.int .i64 x]
  blk := fun _ _ => False
  hT := Try.underlying27
  hinfo := by kernel_rfl
  hz := rfl
  hpos := by omega
  hbytes := by omega
  len := fun h => by subst h; rfl
  one := fun h => by subst h; simp [Value.oneCell']
  keep := fun h _ => h
def rngK : Kd Rng where
  E := 82
  T := 48
  size := 2
  bytes := 16
  z := .agg #[.int .i64 0, .int .i64 0]
  d := default
  rel := fun _ x cs => cs = [.int .i64 x.lo, .int .i64 x.hi]
  blk := fun _ _ => False
  hT := Try.underlying48
  hinfo := by kernel_rfl
  hz := rfl
  hpos := by omega
  hbytes := by omega
  len := fun h => by subst h; rfl
  one := fun h => by subst h; simp [Value.oneCell']
  keep := fun h _ => h
def rngR : Kd Rng where
  E := 69
  T := 54
  size := 2
  bytes := 16
  z := .agg #[.int .i64 0, .int .i64 0]
  d := default
  rel := fun _ x cs => cs = [.int .i64 x.lo, .int .i64 x.hi]
  blk := fun _ _ => False
  hT := Try.underlying54
  hinfo := by kernel_rfl
  hz := rfl
  hpos := by omega
  hbytes := by omega
  len := fun h => by subst h; rfl
  one := fun h => by subst h; simp [Value.oneCell']
  keep := fun h _ => h
def arrK : Kd (List Int) where
  E := 139
  T := 148
  size := 4
  bytes := 32
  z := .agg #[.int .i64 0, .int .i64 0, .int .i64 0, .int .i64 0]
  d := []
  rel := fun _ x cs => cs = (arr4 x).toList
  blk := fun _ _ => False
  hT := Try.underlying148
  hinfo := by kernel_rfl
  hz := rfl
  hpos := by omega
  hbytes := by omega
  len := fun h => by subst h; rfl
  one := fun h => by subst h; simp [arr4, Value.oneCell']
  keep := fun h _ => h
theorem IntsAt.keep {w w' : World} {a : Option Addr} {xs : List Int} (h : IntsAt w a xs) (hk : ∀ b off sp, a = some ⟨b, off, sp⟩ → w'.heap[b]? = w.heap[b]?) : IntsAt w' a xs := fun k hk' => by
  obtain ⟨b, off, e, c⟩ := h k hk'
  refine ⟨b, off, e, ?_⟩
  rw [World.cell?_of_block (w := w) (hk b off none e)]; exact c
theorem RngsAt.keep {w w' : World} {a : Option Addr} {xs : List Rng} (h : RngsAt w a xs) (hk : ∀ b off sp, a = some ⟨b, off, sp⟩ → w'.heap[b]? = w.heap[b]?) : RngsAt w' a xs := fun k hk' => by
  obtain ⟨b, off, e, c, d⟩ := h k hk'
  refine ⟨b, off, e, ?_, ?_⟩
  · rw [World.cell?_of_block (w := w) (hk b off none e)]; exact c
  · rw [World.cell?_of_block (w := w) (hk b off none e)]; exact d
/-- the block that a slice lies in -/
def aBlk (a : Option Addr) (b : Nat) : Prop := ∃ off sp, a = some ⟨b, off, sp⟩
def sBlk (v : Value) (b : Nat) : Prop := ∃ a n c, v = .slice a n c ∧ aBlk a b
def rowK : Kd (List Int) where
  E := 27
  T := 26
  size := 1
  bytes := 24
  z := .slice none 0 0
  d := []
  rel := fun w x cs => ∃ a c, cs = [.slice a x.length c] ∧ IntsAt w a x
  blk := fun cs b => sBlk (cs.getD 0 undef) b
  hT := Try.underlying26
  hinfo := by kernel_rfl
  hz := rfl
  hpos := by omega
  hbytes := by omega
  len := fun h => by obtain ⟨a, c, rfl, _⟩ := h; rfl
  one := fun h => by obtain ⟨a, c, rfl, _⟩ := h; simp [Value.oneCell']
  keep := fun h hb => by
    obtain ⟨a, c, rfl, h⟩ := h
    exact ⟨a, c, rfl, h.keep (fun b off sp e => hb b ⟨a, _, c, rfl, off, sp, e⟩)⟩
def dayK : Kd DayD where
  E := 111
  T := 35
  size := 3
  bytes := 40
  z := .agg #[.slice none 0 0, .int .i64 0, .int .i64 0]
  d := default
  rel := fun w x cs => ∃ a c, cs = [.slice a x.prices.length c, .int .i64 x.rate.lo, .int .i64 x.rate.hi] ∧ RngsAt w a x.prices
  blk := fun cs b => sBlk (cs.getD 0 undef) b
  hT := Try.underlying35
  hinfo := by kernel_rfl
  hz := rfl
  hpos := by omega
  hbytes := by omega
  len := fun h => by obtain ⟨a, c, rfl, _⟩ := h; rfl
  one := fun h => by obtain ⟨a, c, rfl, _⟩ := h; simp [Value.oneCell']
  keep := fun h hb => by
    obtain ⟨a, c, rfl, h⟩ := h
    exact ⟨a, c, rfl, h.keep (fun b off sp e => hb b ⟨a, _, c, rfl, off, sp, e⟩)⟩
def loanK : Kd LoanD where
  E := 109
  T := 36
  size := 3
  bytes := 40
  z := .agg #[.int .i64 0, .int .i64 0, .slice none 0 0]
  d := default
  rel := fun w x cs => ∃ a c, cs = [.int .i64 x.money, .int .i64 x.margin, .slice a x.shares.length c] ∧ IntsAt w a x.shares
  blk := fun cs b => sBlk (cs.getD 2 undef) b
  hT := Try.underlying36
  hinfo := by kernel_rfl
  hz := rfl
  hpos := by omega
  hbytes := by omega
  len := fun h => by obtain ⟨a, c, rfl, _⟩ := h; rfl
  one := fun h => by obtain ⟨a, c, rfl, _⟩ := h; simp [Value.oneCell']
  keep := fun h hb => by
    obtain ⟨a, c, rfl, h⟩ := h
    exact ⟨a, c, rfl, h.keep (fun b off sp e => hb b ⟨a, _, c, rfl, off, sp, e⟩)⟩

theorem fresh_in {v : Value} {a : Option Addr} {n c base lo hi : Nat} {w : World} (hlt : ∀ g, v.ownBlock = some g → g < lo) (hb : base ≤ lo) (ha : ∀ b off sp, a = some ⟨b, off, sp⟩ → lo ≤ b ∧ b < hi) (hh : hi ≤ w.heap.size) :
    ∀ b, sBlk (.slice a n c) b → v.ownBlock ≠ some b ∧ base ≤ b ∧ b < w.heap.size := by
  rintro b ⟨a', n', c', e, off, sp, e'⟩
  simp only [Value.slice.injEq] at e
  rw [← e.1] at e'
  have := ha b off sp e'
  exact ⟨fun h => by have := hlt b h; omega, by omega, by omega⟩

/-! ### what is owned stands for a list -/
theorem OwnL.ints {w : World} {base : Nat} {v : Value} {xs : List Int} (h : OwnL intK w base v xs) : ∃ a cap, v = .slice a xs.length cap ∧ IntsAt w a xs ∧ (∀ b off sp, a = some ⟨b, off, sp⟩ → base ≤ b ∧ b < w.heap.size) := by
  obtain ⟨a, cap, e, hb⟩ := h.form
  refine ⟨a, cap, e, fun k hk => ?_, fun b off sp e' => ⟨(hb _ e').2.2.1, (hb _ e').2.2.2.1⟩⟩
  obtain ⟨g, cap', cs, e2, hr, hc⟩ := h.cells k hk
  rw [e] at e2
  simp only [Value.slice.injEq] at e2
  refine ⟨g, 0, e2.1, ?_⟩
  have := hc 0 (by simp [intK])
  simp only [intK] at hr this
  rw [hr] at this
  simpa using this
theorem OwnL.rngs {w : World} {base : Nat} {v : Value} {xs : List Rng} (h : OwnL rngK w base v xs) : ∃ a cap, v = .slice a xs.length cap ∧ RngsAt w a xs ∧ (∀ b off sp, a = some ⟨b, off, sp⟩ → base ≤ b ∧ b < w.heap.size) := by
  obtain ⟨a, cap, e, hb⟩ := h.form
  refine ⟨a, cap, e, fun k hk => ?_, fun b off sp e' => ⟨(hb _ e').2.2.1, (hb _ e').2.2.2.1⟩⟩
  obtain ⟨g, cap', cs, e2, hr, hc⟩ := h.cells k hk
  rw [e] at e2
  simp only [Value.slice.injEq] at e2
  refine ⟨g, 0, e2.1, ?_, ?_⟩
  · have := hc 0 (by simp [rngK])
    simp only [rngK] at hr this
    rw [hr] at this
    simpa using this
  · have := hc 1 (by simp [rngK])
    simp only [rngK] at hr this
    rw [hr] at this
    simpa using this
theorem OwnL.rngsR {w : World} {base : Nat} {v : Value} {xs : List Rng} (h : OwnL rngR w base v xs) : ∃ a cap, v = .slice a xs.length cap ∧ RngsAt w a xs ∧ (∀ b off sp, a = some ⟨b, off, sp⟩ → base ≤ b ∧ b < w.heap.size) := by
  obtain ⟨a, cap, e, hb⟩ := h.form
  refine ⟨a, cap, e, fun k hk => ?_, fun b off sp e' => ⟨(hb _ e').2.2.1, (hb _ e').2.2.2.1⟩⟩
  obtain ⟨g, cap', cs, e2, hr, hc⟩ := h.cells k hk
  rw [e] at e2
  simp only [Value.slice.injEq] at e2
  refine ⟨g, 0, e2.1, ?_, ?_⟩
  · have := hc 0 (by simp [rngR])
    simp only [rngR] at hr this
    rw [hr] at this
    simpa using this
  · have := hc 1 (by simp [rngR])
    simp only [rngR] at hr this
    rw [hr] at this
    simpa using this
theorem OwnL.rows {w : World} {base : Nat} {v : Value} {xs : List (List Int)} (h : OwnL rowK w base v xs) : ∃ a cap, v = .slice a xs.length cap ∧ RowsAt w a xs ∧ (∀ b off sp, a = some ⟨b, off, sp⟩ → base ≤ b ∧ b < w.heap.size) := by
  obtain ⟨a, cap, e, hb⟩ := h.form
  refine ⟨a, cap, e, fun k hk => ?_, fun b off sp e' => ⟨(hb _ e').2.2.1, (hb _ e').2.2.2.1⟩⟩
  obtain ⟨g, cap', cs, e2, hr, hc⟩ := h.cells k hk
  rw [e] at e2
  simp only [Value.slice.injEq] at e2
  obtain ⟨pa, pc, rfl, hi⟩ := hr
  have := hc 0 (by simp [rowK])
  simp only [rowK] at this
  exact ⟨g, 0, pa, pc, e2.1, by simpa [rowK] using this, by simpa [rowK] using hi⟩
theorem OwnL.days {w : World} {base : Nat} {v : Value} {xs : List DayD} (h : OwnL dayK w base v xs) : ∃ a cap, v = .slice a xs.length cap ∧ DaysAt w a xs ∧ (∀ b off sp, a = some ⟨b, off, sp⟩ → base ≤ b ∧ b < w.heap.size) := by
  obtain ⟨a, cap, e, hb⟩ := h.form
  refine ⟨a, cap, e, fun k hk => ?_, fun b off sp e' => ⟨(hb _ e').2.2.1, (hb _ e').2.2.2.1⟩⟩
  obtain ⟨g, cap', cs, e2, hr, hc⟩ := h.cells k hk
  rw [e] at e2
  simp only [Value.slice.injEq] at e2
  obtain ⟨pa, pc, rfl, hi⟩ := hr
  have h0 := hc 0 (by simp [dayK])
  have h1 := hc 1 (by simp [dayK])
  have h2 := hc 2 (by simp [dayK])
  simp only [dayK] at h0 h1 h2
  exact ⟨g, 0, pa, pc, e2.1, by simpa [dayK] using h0, by simpa [dayK] using h1, by simpa [dayK] using h2, by simpa [dayK] using hi⟩
theorem OwnL.loans {w : World} {base : Nat} {v : Value} {xs : List LoanD} (h : OwnL loanK w base v xs) : ∃ a cap, v = .slice a xs.length cap ∧ LoansAt w a xs ∧ (∀ b off sp, a = some ⟨b, off, sp⟩ → base ≤ b ∧ b < w.heap.size) := by
  obtain ⟨a, cap, e, hb⟩ := h.form
  refine ⟨a, cap, e, fun k hk => ?_, fun b off sp e' => ⟨(hb _ e').2.2.1, (hb _ e').2.2.2.1⟩⟩
  obtain ⟨g, cap', cs, e2, hr, hc⟩ := h.cells k hk
  rw [e] at e2
  simp only [Value.slice.injEq] at e2
  obtain ⟨pa, pc, rfl, hi⟩ := hr
  have h0 := hc 0 (by simp [loanK])
  have h1 := hc 1 (by simp [loanK])
  have h2 := hc 2 (by simp [loanK])
  simp only [loanK] at h0 h1 h2
  exact ⟨g, 0, pa, pc, e2.1, by simpa [loanK] using h0, by simpa [loanK] using h1, by simpa [loanK] using h2, by simpa [loanK] using hi⟩
end Go.Proofs.Ytfiacjdkdjkiiaa
