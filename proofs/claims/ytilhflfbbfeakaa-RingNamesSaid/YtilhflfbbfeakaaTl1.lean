/- Values as plain trees: when a value in memory stands for a tree, what a call owns, and that it stays so. No program in sight. -/
import Derived.WalkKit
import Derived.Lib.Hide
import Derived.Deep.AppendLies
namespace Go.Tl
open Go Go.RowKit
set_option linter.unusedVariables false

/-- data that nobody writes any more: a number, a bool .., or a slice of n elements of sz cells each (cp: its capacity is known to be at least n) -/
inductive Tr where
  | sc (v : Value)
  | sl (cp : Bool) (sz n : Nat) (f : Nat → List Tr)

/-- a value stands for a tree; all blocks that it leads to are stable (S) -/
inductive TRel (w : World) (S : Nat → Prop) : Tr → Value → Prop where
  | sc (v : Value) : TRel w S (.sc v) v
  | sl {cp : Bool} {sz n : Nat} {f : Nat → List Tr} {a : Option Addr} {c : Nat} (val : Nat → Nat → Value) (hc : cp = true → n ≤ c)
      (hl : ∀ k, k < n → (f k).length = sz)
      (h : ∀ k, k < n → ∃ b off, a = some ⟨b, off, none⟩ ∧ S b ∧ ∀ j, j < sz → w.cell? ⟨b, off + k * sz + j, none⟩ = some (val k j))
      (ih : ∀ (k j : Nat) (x : Tr), k < n → (f k)[j]? = some x → TRel w S x (val k j)) : TRel w S (.sl cp sz n f) (.slice a n c)

/-- what a slot or a cell holds: a value; a tree; cells by value; a tuple; the address of a cell of an element of a stable slice; a function with what it bears; the address of a cell of an element of an owned slice -/
inductive AV where
  | v (x : Value)
  | t (x : Tr)
  | ag (cs : List AV)
  | tup (vs : List AV)
  | elt (sz n : Nat) (f : Nat → List Tr) (k o : Nat)
  | fn (g : Fn) (first caps : List AV)
  | rp (v : Value) (sz k o : Nat)

inductive VRel (w : World) (S : Nat → Prop) : AV → Value → Prop where
  | v (x : Value) : VRel w S (.v x) x
  | t {x : Tr} {v : Value} (h : TRel w S x v) : VRel w S (.t x) v
  | ag {cs : List AV} {vs : List Value} (hl : cs.length = vs.length) (h : ∀ (j : Nat) (x : AV) (y : Value), cs[j]? = some x → vs[j]? = some y → VRel w S x y) : VRel w S (.ag cs) (.agg vs.toArray)
  | tup {cs : List AV} {vs : List Value} (hl : cs.length = vs.length) (h : ∀ (j : Nat) (x : AV) (y : Value), cs[j]? = some x → vs[j]? = some y → VRel w S x y) : VRel w S (.tup cs) (.tuple vs.toArray)
  | elt {cp : Bool} {sz n : Nat} {f : Nat → List Tr} {k o b off c : Nat} (h : TRel w S (.sl cp sz n f) (.slice (some ⟨b, off, none⟩) n c)) (hk : k < n) : VRel w S (.elt sz n f k o) (.pointer (some ⟨b, off + k * sz + o, none⟩))
  | fn {g : Fn} {cs ds : List AV} {vs us : List Value} (hl : cs.length = vs.length) (h : ∀ (j : Nat) (x : AV) (y : Value), cs[j]? = some x → vs[j]? = some y → VRel w S x y)
      (hl' : ds.length = us.length) (h' : ∀ (j : Nat) (x : AV) (y : Value), ds[j]? = some x → us[j]? = some y → VRel w S x y) : VRel w S (.fn g cs ds) (.func g vs.toArray us.toArray)
  | rp {g n cap sz k o : Nat} : VRel w S (.rp (.slice (some ⟨g, 0, none⟩) n cap) sz k o) (.pointer (some ⟨g, k * sz + o, none⟩))

def VRels (w : World) (S : Nat → Prop) (cs : List AV) (vs : List Value) : Prop := cs.length = vs.length ∧ ∀ (j : Nat) (x : AV) (y : Value), cs[j]? = some x → vs[j]? = some y → VRel w S x y

section
variable {w w' : World} {S S' : Nat → Prop}

theorem cell_of_block {b o : Nat} (h : w'.heap[b]? = w.heap[b]?) : w'.cell? ⟨b, o, none⟩ = w.cell? ⟨b, o, none⟩ := by simp [World.cell?, h]

theorem TRel.mono {x : Tr} {v : Value} (h : TRel w S x v) (hS : ∀ b, S b → S' b) (hw : ∀ b, S b → w'.heap[b]? = w.heap[b]?) : TRel w' S' x v := by
  induction h with
  | sc v => exact .sc v
  | sl val hc hl h _ ih =>
    refine .sl val hc hl (fun k hk => ?_) ih
    obtain ⟨b, off, e, hb, hcell⟩ := h k hk
    exact ⟨b, off, e, hS b hb, fun j hj => (cell_of_block (hw b hb)).trans (hcell j hj)⟩

theorem VRel.mono {x : AV} {v : Value} (h : VRel w S x v) (hS : ∀ b, S b → S' b) (hw : ∀ b, S b → w'.heap[b]? = w.heap[b]?) : VRel w' S' x v := by
  induction h with
  | v x => exact .v x
  | t h => exact .t (h.mono hS hw)
  | ag hl _ ih => exact .ag hl ih
  | tup hl _ ih => exact .tup hl ih
  | elt h hk => exact .elt (h.mono hS hw) hk
  | fn hl _ hl' _ ih ih' => exact .fn hl ih hl' ih'
  | rp => exact .rp

theorem VRels.mono {cs : List AV} {vs : List Value} (h : VRels w S cs vs) (hS : ∀ b, S b → S' b) (hw : ∀ b, S b → w'.heap[b]? = w.heap[b]?) : VRels w' S' cs vs :=
  ⟨h.1, fun j x y hx hy => (h.2 j x y hx hy).mono hS hw⟩
theorem VRels.get {cs : List AV} {vs : List Value} (h : VRels w S cs vs) {j : Nat} {x : AV} (hx : cs[j]? = some x) : ∃ v, vs[j]? = some v ∧ VRel w S x v := by
  have hj : j < vs.length := by rw [← h.1]; exact (List.getElem?_eq_some_iff.1 hx).1
  exact ⟨_, List.getElem?_eq_getElem hj, h.2 j x _ hx (List.getElem?_eq_getElem hj)⟩
theorem VRels.nil : VRels w S [] [] := ⟨rfl, fun j x y h => by simp at h⟩
theorem VRels.cons {x : AV} {v : Value} {cs : List AV} {vs : List Value} (h : VRel w S x v) (hs : VRels w S cs vs) : VRels w S (x :: cs) (v :: vs) := by
  refine ⟨by simp [hs.1], fun j y u hy hu => ?_⟩
  cases j with
  | zero => simp at hy hu; subst hy; subst hu; exact h
  | succ j => simp at hy hu; exact hs.2 j y u hy hu
theorem VRels.append {cs ds : List AV} {vs us : List Value} (h : VRels w S cs vs) (h' : VRels w S ds us) : VRels w S (cs ++ ds) (vs ++ us) := by
  refine ⟨by simp [h.1, h'.1], fun j y u hy hu => ?_⟩
  rcases Nat.lt_or_ge j cs.length with hj | hj
  · rw [List.getElem?_append_left hj] at hy
    rw [List.getElem?_append_left (by rw [← h.1]; exact hj)] at hu
    exact h.2 j y u hy hu
  · rw [List.getElem?_append_right hj] at hy
    rw [List.getElem?_append_right (by rw [← h.1]; exact hj)] at hu
    rw [← h.1] at hu
    exact h'.2 _ y u hy hu
theorem VRels.set {cs : List AV} {vs : List Value} (h : VRels w S cs vs) {x : AV} {v : Value} (hx : VRel w S x v) (j : Nat) : VRels w S (cs.set j x) (vs.set j v) := by
  refine ⟨by simp [h.1], fun i y u hy hu => ?_⟩
  rw [List.getElem?_set] at hy hu
  split at hy
  · rename_i e
    subst e
    split at hy
    · rw [if_pos rfl] at hu
      split at hu
      · simp at hy hu; subst hy; subst hu; exact hx
      · cases hu
    · cases hy
  · rename_i e
    rw [if_neg e] at hu
    exact h.2 i y u hy hu
theorem VRels.take {cs : List AV} {vs : List Value} (h : VRels w S cs vs) (n : Nat) : VRels w S (cs.take n) (vs.take n) := by
  refine ⟨by simp [h.1], fun i y u hy hu => ?_⟩
  rw [List.getElem?_take] at hy hu
  split at hy
  · rename_i hi; rw [if_pos hi] at hu; exact h.2 i y u hy hu
  · cases hy
theorem VRels.drop {cs : List AV} {vs : List Value} (h : VRels w S cs vs) (n : Nat) : VRels w S (cs.drop n) (vs.drop n) := by
  refine ⟨by simp [h.1], fun i y u hy hu => ?_⟩
  rw [List.getElem?_drop] at hy hu
  exact h.2 _ y u hy hu
theorem VRels.lits (vs : List Value) : VRels w S (vs.map AV.v) vs := by
  refine ⟨by simp, fun j x y hx hy => ?_⟩
  rw [List.getElem?_map, hy] at hx
  simp at hx; subst hx; exact .v _
theorem VRel.lit_inv {x v : Value} (h : VRel w S (.v x) v) : v = x := by cases h; rfl
theorem VRels.lits_inv {xs vs : List Value} (h : VRels w S (xs.map AV.v) vs) : vs = xs := by
  have hl : xs.length = vs.length := by have := h.1; simpa using this
  apply List.ext_getElem? 
  intro j
  rcases Nat.lt_or_ge j xs.length with hj | hj
  · have := h.2 j (.v xs[j]) (vs[j]'(by omega)) (by simp [hj]) (List.getElem?_eq_getElem _)
    rw [List.getElem?_eq_getElem hj, List.getElem?_eq_getElem (by omega), this.lit_inv]
  · rw [List.getElem?_eq_none (by omega), List.getElem?_eq_none hj]
end

/-! ### what a call owns -/
/-- an object of another kind: its block, and what holds of it (and of stable blocks) -/
structure Ob where
  fp : Nat → Prop
  Φ : World → (Nat → Prop) → Prop
  lt : ∀ {w S}, Φ w S → ∀ g, fp g → g < w.heap.size
  keep : ∀ {w w' S S'}, Φ w S → w'.os = w.os → w'.tape = w.tape → w'.output = w.output → w.heap.size ≤ w'.heap.size → (∀ b, S b → S' b) → (∀ b, S b → w'.heap[b]? = w.heap[b]?) → (∀ g, fp g → w'.heap[g]? = w.heap[g]?) → Φ w' S'

inductive Ent where
  | cl (g : Nat) (T : TypeId) (cs : List AV)
  | rw (v : Value) (E sz : Nat) (rows : List (List AV))
  | ob (o : Ob)

def Ent.blk : Ent → Nat → Prop
  | .cl g _ _, b => g = b
  | .rw v _ _ _, b => v.ownBlock = some b
  | .ob o, b => o.fp b
/-- a world in which blocks of p alone are written, and new ones made -/
structure Grw (w w' : World) (p : Nat → Prop) : Prop where
  os : w'.os = w.os
  tape : w'.tape = w.tape
  output : w'.output = w.output
  size : w.heap.size ≤ w'.heap.size
  block : ∀ b, b < w.heap.size → ¬ p b → w'.heap[b]? = w.heap[b]?
theorem Grw.of {w w' : World} {row : Option Nat} {p : Nat → Prop} (h : w.grownBy w' row) (hp : ∀ b, row = some b → p b) : Grw w w' p := ⟨h.os, h.tape, h.output, h.size, fun b hb hn => h.block b hb (fun e => hn (hp b e.symm))⟩
theorem Grw.refl {w : World} {p : Nat → Prop} : Grw w w p := ⟨rfl, rfl, rfl, Nat.le_refl _, fun _ _ _ => rfl⟩

def ERel (w : World) (S : Nat → Prop) : Ent → Prop
  | .cl g T cs => ∃ vs : List Value, w.heap[g]? = some (.cells vs.toArray T (0, 0)) ∧ VRels w S cs vs
  | .rw v E sz rows => ∃ xs, w.ownsRow 0 E sz v rows.length xs ∧ VRels w S rows.flatten xs ∧ ∀ r ∈ rows, r.length = sz
  | .ob o => o.Φ w S

theorem ownsRow_kept {w w' : World} {base : Nat} {e : TypeId} {size : Nat} {v : Value} {n : Nat} {xs : List Value} (h : w.ownsRow base e size v n xs) (hb : ∀ b, v.ownBlock = some b → w'.heap[b]? = w.heap[b]?) : w'.ownsRow base e size v n xs := by
  refine ⟨h.1, ?_⟩
  rcases h.2 with hn | ⟨g, cap, cur, rfl, hbb, hgg, rest⟩
  · exact .inl hn
  · exact .inr ⟨g, cap, cur, rfl, hbb, by rw [hb g rfl]; exact hgg, rest⟩

theorem ERel.lt {w : World} {S : Nat → Prop} {e : Ent} (h : ERel w S e) : ∀ g, e.blk g → g < w.heap.size := by
  intro g hg
  cases e with
  | cl g' T cs =>
    obtain ⟨vs, hv, _⟩ := h
    simp [Ent.blk] at hg; subst hg
    exact (Array.getElem?_eq_some_iff.1 hv).1
  | rw v E sz rows =>
    obtain ⟨xs, ho, _⟩ := h
    exact (ho.lt g hg).2
  | ob o => exact o.lt h g hg
theorem ERel.mono {w w' : World} {S S' : Nat → Prop} {e : Ent} (h : ERel w S e) (hos : w'.os = w.os) (htp : w'.tape = w.tape) (hou : w'.output = w.output) (hsz : w.heap.size ≤ w'.heap.size) (hS : ∀ b, S b → S' b) (hw : ∀ b, S b → w'.heap[b]? = w.heap[b]?) (hg : ∀ g, e.blk g → w'.heap[g]? = w.heap[g]?) : ERel w' S' e := by
  cases e with
  | cl g T cs =>
    obtain ⟨vs, hv, hr⟩ := h
    exact ⟨vs, (hg g rfl).trans hv, hr.mono hS hw⟩
  | rw v E sz rows =>
    obtain ⟨xs, ho, hr, hl⟩ := h
    exact ⟨xs, ownsRow_kept ho hg, hr.mono hS hw, hl⟩
  | ob o => exact o.keep h hos htp hou hsz hS hw hg

def Apart (e e' : Ent) : Prop := ∀ g, e.blk g → ¬ e'.blk g
theorem Apart.symm {e e' : Ent} (h : Apart e e') : Apart e' e := fun g h1 h2 => h g h2 h1

structure HRel (w : World) (S : Nat → Prop) (h : List Ent) : Prop where
  ent : ∀ e ∈ h, ERel w S e
  off : ∀ e ∈ h, ∀ g, e.blk g → ¬ S g
  sep : h.Pairwise Apart

theorem HRel.nil {w : World} {S : Nat → Prop} : HRel w S [] := ⟨fun _ h => (by cases h), fun _ h => (by cases h), List.Pairwise.nil⟩

/-- the one entry is replaced -/
inductive Repl {α : Type} : List α → α → α → List α → Prop where
  | here {x y : α} {l : List α} : Repl (x :: l) x y (y :: l)
  | there {x y z : α} {l l' : List α} (h : Repl l x y l') : Repl (z :: l) x y (z :: l')
theorem Repl.split {α : Type} {l l' : List α} {x y : α} (h : Repl l x y l') : ∃ a b, l = a ++ x :: b ∧ l' = a ++ y :: b := by
  induction h with
  | @here x y l => exact ⟨[], l, rfl, rfl⟩
  | @there x y z l l' _ ih =>
    obtain ⟨a, b, rfl, rfl⟩ := ih
    exact ⟨z :: a, b, rfl, rfl⟩
/-- the one entry is taken out -/
inductive Pick {α : Type} : List α → α → List α → Prop where
  | here {x : α} {l : List α} : Pick (x :: l) x l
  | there {x z : α} {l l' : List α} (h : Pick l x l') : Pick (z :: l) x (z :: l')
theorem Pick.split {α : Type} {l l' : List α} {x : α} (h : Pick l x l') : ∃ a b, l = a ++ x :: b ∧ l' = a ++ b := by
  induction h with
  | @here x l => exact ⟨[], l, rfl, rfl⟩
  | @there x z l l' _ ih =>
    obtain ⟨a, b, rfl, rfl⟩ := ih
    exact ⟨z :: a, b, rfl, rfl⟩
inductive Mem1 {α : Type} : α → List α → Prop where
  | here {x : α} {l : List α} : Mem1 x (x :: l)
  | there {x z : α} {l : List α} (h : Mem1 x l) : Mem1 x (z :: l)
theorem Mem1.mem {α : Type} {x : α} {l : List α} (h : Mem1 x l) : x ∈ l := by
  induction h with
  | here => exact List.mem_cons_self
  | there _ ih => exact List.mem_cons_of_mem _ ih

theorem pairwise_repl {α : Type} {R : α → α → Prop} {a b : List α} {x y : α} (h : (a ++ x :: b).Pairwise R) (h1 : ∀ z ∈ a, R z y) (h2 : ∀ z ∈ b, R y z) : (a ++ y :: b).Pairwise R := by
  rw [List.pairwise_append] at h ⊢
  obtain ⟨ha, hb, hab⟩ := h
  rw [List.pairwise_cons] at hb ⊢
  refine ⟨ha, ⟨h2, hb.2⟩, fun u hu z hz => ?_⟩
  rcases List.mem_cons.1 hz with rfl | hz
  · exact h1 u hu
  · exact hab u hu z (List.mem_cons_of_mem _ hz)

/-- a step that writes the block of one entry alone -/
theorem HRel.repl {w w' : World} {S : Nat → Prop} {h h' : List Ent} {e e' : Ent} (hr : HRel w S h) (hp : Repl h e e' h') (hlt : ∀ b, S b → b < w.heap.size)
    (hgr : Grw w w' e.blk) (he : ERel w' S e') (hb : ∀ g, e'.blk g → e.blk g ∨ w.heap.size ≤ g) : HRel w' S h' := by
  have hw := hgr.block
  obtain ⟨a, b, rfl, rfl⟩ := hp.split
  have hS : ∀ b, S b → w'.heap[b]? = w.heap[b]? := fun g hg => hw g (hlt g hg) (fun e0 => hr.off e (by simp) g e0 hg)
  have hsep := hr.sep
  have hsep2 := hsep
  rw [List.pairwise_append] at hsep2
  obtain ⟨ha, hbb, hab⟩ := hsep2
  rw [List.pairwise_cons] at hbb
  have apart_e : ∀ z, z ∈ a ∨ z ∈ b → Apart z e := fun z hz => by
    rcases hz with hz | hz
    · exact hab z hz e List.mem_cons_self
    · exact (hbb.1 z hz).symm
  have memz : ∀ z, z ∈ a ∨ z ∈ b → z ∈ a ++ e :: b := fun z hz => by
    rcases hz with hz | hz
    · exact List.mem_append_left _ hz
    · exact List.mem_append_right _ (List.mem_cons_of_mem _ hz)
  have apart' : ∀ z, z ∈ a ∨ z ∈ b → Apart z e' := fun z hz g hg hg' => by
    rcases hb g hg' with h1 | h1
    · exact apart_e z hz g hg h1
    · have := (hr.ent z (memz z hz)).lt g hg; omega
  have keepz : ∀ z, z ∈ a ∨ z ∈ b → ERel w' S z := fun z hz => (hr.ent z (memz z hz)).mono hgr.os hgr.tape hgr.output hgr.size (fun _ h => h) hS (fun g hg => hw g ((hr.ent z (memz z hz)).lt g hg) (fun e0 => apart_e z hz g hg e0))
  refine ⟨fun z hz => ?_, fun z hz g hg => ?_, pairwise_repl hsep (fun z hz => apart' z (.inl hz)) (fun z hz => (apart' z (.inr hz)).symm)⟩
  · rcases List.mem_append.1 hz with hz | hz
    · exact keepz z (.inl hz)
    · rcases List.mem_cons.1 hz with rfl | hz
      · exact he
      · exact keepz z (.inr hz)
  · rcases List.mem_append.1 hz with hz | hz
    · exact hr.off z (memz z (.inl hz)) g hg
    · rcases List.mem_cons.1 hz with rfl | hz
      · rcases hb g hg with h1 | h1
        · exact hr.off e (by simp) g h1
        · intro hs; have := hlt g hs; omega
      · exact hr.off z (memz z (.inr hz)) g hg
/-- a new entry -/
theorem HRel.push {w w' : World} {S : Nat → Prop} {h : List Ent} {e' : Ent} (hr : HRel w S h) (hlt : ∀ b, S b → b < w.heap.size)
    (hgr : Grw w w' (fun _ => False)) (he : ERel w' S e') (hb : ∀ g, e'.blk g → w.heap.size ≤ g) : HRel w' S (e' :: h) := by
  have hw := fun b hb => hgr.block b hb id
  have keepz : ∀ z ∈ h, ERel w' S z := fun z hz => (hr.ent z hz).mono hgr.os hgr.tape hgr.output hgr.size (fun _ h => h) (fun b hb => hw b (hlt b hb)) (fun g hg => hw g ((hr.ent z hz).lt g hg))
  refine ⟨fun z hz => ?_, fun z hz g hg => ?_, List.pairwise_cons.2 ⟨fun z hz g hg hg' => ?_, hr.sep⟩⟩
  · rcases List.mem_cons.1 hz with rfl | hz
    · exact he
    · exact keepz z hz
  · rcases List.mem_cons.1 hz with rfl | hz
    · intro hs; have := hlt g hs; have := hb g hg; omega
    · exact hr.off z hz g hg
  · have := (hr.ent z hz).lt g hg'; have := hb g hg; omega
/-- nothing that is owned or stable is written -/
theorem HRel.same {w w' : World} {S S' : Nat → Prop} {h : List Ent} (hr : HRel w S h) (hlt : ∀ b, S b → b < w.heap.size) (hS : ∀ b, S b → S' b) (hS' : ∀ b, S' b → S b ∨ w.heap.size ≤ b)
    (hgr : Grw w w' (fun _ => False)) : HRel w' S' h := by
  have hw := fun b hb => hgr.block b hb id
  refine ⟨fun z hz => (hr.ent z hz).mono hgr.os hgr.tape hgr.output hgr.size hS (fun b hb => hw b (hlt b hb)) (fun g hg => hw g ((hr.ent z hz).lt g hg)), fun z hz g hg hs => ?_, hr.sep⟩
  rcases hS' g hs with h1 | h1
  · exact hr.off z hz g hg h1
  · have := (hr.ent z hz).lt g hg; omega
/-- an entry's block becomes stable -/
theorem HRel.freeze {w : World} {S : Nat → Prop} {h h' : List Ent} {e : Ent} (hr : HRel w S h) (hp : Pick h e h') : HRel w (fun b => S b ∨ e.blk b) h' := by
  obtain ⟨a, b, rfl, rfl⟩ := hp.split
  have hsep := hr.sep
  rw [List.pairwise_append] at hsep
  obtain ⟨ha, hbb, hab⟩ := hsep
  rw [List.pairwise_cons] at hbb
  have memz : ∀ z, z ∈ a ++ b → z ∈ a ++ e :: b := fun z hz => by
    rcases List.mem_append.1 hz with hz | hz
    · exact List.mem_append_left _ hz
    · exact List.mem_append_right _ (List.mem_cons_of_mem _ hz)
  have ap : ∀ z, z ∈ a ++ b → Apart z e := fun z hz => by
    rcases List.mem_append.1 hz with hz | hz
    · exact hab z hz e List.mem_cons_self
    · exact (hbb.1 z hz).symm
  refine ⟨fun z hz => (hr.ent z (memz z hz)).mono rfl rfl rfl (Nat.le_refl _) (fun _ h => .inl h) (fun _ _ => rfl) (fun _ _ => rfl), fun z hz g hg hs => ?_, List.pairwise_append.2 ⟨ha, hbb.2, fun x hx y hy => hab x hx y (List.mem_cons_of_mem _ hy)⟩⟩
  rcases hs with hs | hs
  · exact hr.off z (memz z hz) g hg hs
  · exact ap z hz g hg hs
/-- an entry is forgotten -/
theorem HRel.drop {w : World} {S : Nat → Prop} {h h' : List Ent} {e : Ent} (hr : HRel w S h) (hp : Pick h e h') : HRel w S h' := by
  have hf := hr.freeze hp
  refine ⟨fun z hz => ?_, fun z hz g hg hs => hf.off z hz g hg (.inl hs), hf.sep⟩
  obtain ⟨a, b, rfl, rfl⟩ := hp.split
  refine hr.ent z ?_
  rcases List.mem_append.1 hz with hz | hz
  · exact List.mem_append_left _ hz
  · exact List.mem_append_right _ (List.mem_cons_of_mem _ hz)
theorem HRel.sub {w : World} {S : Nat → Prop} {h h' : List Ent} (hr : HRel w S h) (hp : h'.Sublist h) : HRel w S h' :=
  ⟨fun z hz => hr.ent z (hp.subset hz), fun z hz => hr.off z (hp.subset hz), hr.sep.sublist hp⟩
end Go.Tl
