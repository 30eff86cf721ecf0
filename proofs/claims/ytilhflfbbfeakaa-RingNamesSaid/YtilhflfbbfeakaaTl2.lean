/- States of a call over plain trees: its slots, what it owns; single operations that only compute or look. -/
import Derived.Test.YtilhflfbbfeakaaTl1
namespace Go.Tl
open Go Go.RowKit
set_option linter.unusedVariables false

abbrev Slots := List (Nat × AV)
def look : Slots → Nat → Option AV
  | [], _ => none
  | (e, x) :: r, d => cond (Nat.beq e d) (some x) (look r d)
def evA (s : Slots) : Operand → Option AV
  | .tmp t => look s t
  | .const v => some (.v v)
  | .func f => some (.v (.func (.func f) #[] #[]))
  | .global _ => none

/-- the call's beginning: its world, what was stable, what it may write -/
structure Base where
  w : World
  S : Nat → Prop
  O : Nat → Prop

structure Ext (B : Base) (w : World) (S : Nat → Prop) : Prop where
  os : w.os = B.w.os
  tape : w.tape = B.w.tape
  output : w.output = B.w.output
  size : B.w.heap.size ≤ w.heap.size
  keep : ∀ b, b < B.w.heap.size → ¬ B.O b → w.heap[b]? = B.w.heap[b]?
  stab : ∀ b, B.S b → S b
  new : ∀ b, S b → B.S b ∨ B.w.heap.size ≤ b ∨ B.O b

def SRel (w : World) (S : Nat → Prop) (s : Slots) (tmps : Array Value) : Prop := ∀ d x, look s d = some x → ∃ v, tmps[d]? = some v ∧ VRel w S x v

/-- the marks that loops over functions leave -/
def markD (r : Nat) : Deferred := { target := .collected r, args := #[] }
def DRel (B : Base) (w : World) (S : Nat → Prop) (h : List Ent) (ds : List Deferred) : Prop :=
  ∃ rs : List Nat, ds = rs.map markD ∧ rs.Nodup ∧ ∀ r ∈ rs, w.heap[r]? = some (.deferred (some [])) ∧ ¬ S r ∧ (B.O r ∨ B.w.heap.size ≤ r) ∧ ∀ e ∈ h, ¬ e.blk r
theorem DRel.nil {B : Base} {w : World} {S : Nat → Prop} {h : List Ent} : DRel B w S h [] := ⟨[], rfl, List.nodup_nil, fun _ h => (by cases h)⟩
theorem DRel.keep {B : Base} {w w' : World} {S S' : Nat → Prop} {h h' : List Ent} {ds : List Deferred} (H : DRel B w S h ds) (hk : ∀ r, r < w.heap.size → (∀ e ∈ h, ¬ e.blk r) → w'.heap[r]? = w.heap[r]?)
    (hS : ∀ r, S' r → S r ∨ w.heap.size ≤ r ∨ ∃ e ∈ h, e.blk r) (hh : ∀ e ∈ h', ∀ r, e.blk r → (∃ e0 ∈ h, e0.blk r) ∨ w.heap.size ≤ r) : DRel B w' S' h' ds := by
  obtain ⟨rs, rfl, hn, hr⟩ := H
  refine ⟨rs, rfl, hn, fun r hrs => ?_⟩
  obtain ⟨h1, h2, h3, h4⟩ := hr r hrs
  have hlt : r < w.heap.size := (Array.getElem?_eq_some_iff.1 h1).1
  refine ⟨(hk r hlt h4).trans h1, fun hs => ?_, h3, fun e he hb => ?_⟩
  · rcases hS r hs with h5 | h5 | ⟨e, he, h5⟩
    · exact h2 h5
    · omega
    · exact h4 e he h5
  · rcases hh e he r hb with ⟨e0, he0, h5⟩ | h5
    · exact h4 e0 he0 h5
    · omega

structure Sim (B : Base) (N : Nat) (w : World) (S : Nat → Prop) (s : Slots) (h : List Ent) (a : Act) : Prop where
  ext : Ext B w S
  defs : DRel B w S h a.defers
  size : a.tmps.size = N
  slots : SRel w S s a.tmps
  lt : ∀ b, S b → b < w.heap.size
  heap : HRel w S h
  live : ∀ e ∈ h, ∀ g, e.blk g → B.O g ∨ B.w.heap.size ≤ g
  off : ∀ b, B.S b → ¬ B.O b

structure Upd (w : World) (S : Nat → Prop) (w' : World) (S' : Nat → Prop) (md : Nat → Prop) : Prop where
  size : w.heap.size ≤ w'.heap.size
  keep : ∀ b, b < w.heap.size → ¬ md b → w'.heap[b]? = w.heap[b]?
  stab : ∀ b, S b → S' b
theorem Upd.refl {w : World} {S md : Nat → Prop} : Upd w S w S md := ⟨Nat.le_refl _, fun _ _ _ => rfl, fun _ h => h⟩

theorem SRel.eval {w : World} {S : Nat → Prop} {s : Slots} {a : Act} (h : SRel w S s a.tmps) {x : Operand} {y : AV} (hx : evA s x = some y) : VRel w S y (a.eval x) := by
  cases x with
  | tmp t =>
    obtain ⟨v, hv, hr⟩ := h t y hx
    simp [Act.eval, hv]; exact hr
  | const v => simp [evA] at hx; subst hx; exact .v _
  | func f => simp [evA] at hx; subst hx; exact .v _
  | global g => simp [evA] at hx
theorem SRel.evals {w : World} {S : Nat → Prop} {s : Slots} {a : Act} (h : SRel w S s a.tmps) {xs : List Operand} {ys : List AV} (hx : xs.map (evA s) = ys.map some) : VRels w S ys (xs.map a.eval) := by
  induction xs generalizing ys with
  | nil => cases ys with
    | nil => exact .nil
    | cons y ys => simp at hx
  | cons x xs ih => cases ys with
    | nil => simp at hx
    | cons y ys =>
      simp at hx
      exact .cons (h.eval hx.1) (ih hx.2)
theorem SRel.mono {w w' : World} {S S' : Nat → Prop} {s : Slots} {t : Array Value} (h : SRel w S s t) (hS : ∀ b, S b → S' b) (hw : ∀ b, S b → w'.heap[b]? = w.heap[b]?) : SRel w' S' s t := fun d x hx =>
  let ⟨v, hv, hr⟩ := h d x hx
  ⟨v, hv, hr.mono hS hw⟩
theorem SRel.put {w : World} {S : Nat → Prop} {s : Slots} {a : Act} (h : SRel w S s a.tmps) {d : Nat} {x : AV} {v : Value} (hx : VRel w S x v) (hd : d < a.tmps.size) : SRel w S ((d, x) :: s) (a.put (some d) v).tmps := fun e y hy => by
  simp only [Act.put]
  by_cases he : d = e
  · subst he
    simp [look, Nat.beq_refl] at hy
    subst hy
    exact ⟨v, by simp [hd], hx⟩
  · have hb : Nat.beq d e = false := by
      cases hq : Nat.beq d e with
      | false => rfl
      | true => exact absurd (Nat.eq_of_beq_eq_true hq) he
    simp only [look, hb, cond_false] at hy
    obtain ⟨u, hu, hr⟩ := h e y hy
    exact ⟨u, by rw [Array.getElem?_setIfInBounds_ne he]; exact hu, hr⟩

section
variable {B : Base} {N : Nat} {w : World} {S : Nat → Prop} {s : Slots} {h : List Ent} {a : Act}

theorem Ext.step {w' : World} {S' : Nat → Prop} {md : Nat → Prop} (e : Ext B w S) (hos : w'.os = w.os) (ht : w'.tape = w.tape) (ho : w'.output = w.output) (u : Upd w S w' S' md)
    (hm : ∀ b, md b → B.O b ∨ B.w.heap.size ≤ b) (hn : ∀ b, S' b → S b ∨ w.heap.size ≤ b ∨ md b) : Ext B w' S' :=
  ⟨hos.trans e.os, ht.trans e.tape, ho.trans e.output, Nat.le_trans e.size u.size, fun b hb hO => (u.keep b (Nat.lt_of_lt_of_le hb e.size) (fun hmd => by
      rcases hm b hmd with h1 | h1
      · exact hO h1
      · omega)).trans (e.keep b hb hO), fun b hb => u.stab b (e.stab b hb), fun b hb => by
      rcases hn b hb with h1 | h1 | h1
      · exact e.new b h1
      · exact .inr (.inl (Nat.le_trans e.size h1))
      · rcases hm b h1 with h2 | h2
        · exact .inr (.inr h2)
        · exact .inr (.inl h2)⟩

/-- a slot is set -/
theorem Sim.put (H : Sim B N w S s h a) {d : Nat} {x : AV} {v : Value} (hx : VRel w S x v) (hd : d < N) : Sim B N w S ((d, x) :: s) h (a.put (some d) v) :=
  ⟨H.ext, H.defs, by simp [Act.put, H.size], H.slots.put hx (by rw [H.size]; exact hd), H.lt, H.heap, H.live, H.off⟩
theorem Sim.putNone (H : Sim B N w S s h a) {v : Value} : Sim B N w S s h (a.put none v) := H

/-- a world like the first one but for new blocks -/
theorem Sim.grow (H : Sim B N w S s h a) {w' : World} (hg : Grw w w' (fun _ => False)) : Sim B N w' S s h a :=
  have hw := fun b hb => hg.block b hb id
  ⟨H.ext.step (md := fun _ => False) hg.os hg.tape hg.output ⟨hg.size, fun b hb _ => hw b hb, fun _ h => h⟩ (fun _ h => h.elim) (fun _ h => .inl h),
    H.defs.keep (fun r hr _ => hw r hr) (fun r hr => .inl hr) (fun e he r hb => .inl ⟨e, he, hb⟩), H.size, H.slots.mono (fun _ h => h) (fun b hb => hw b (H.lt b hb)),
    fun b hb => Nat.lt_of_lt_of_le (H.lt b hb) hg.size, H.heap.same H.lt (fun _ h => h) (fun _ h => .inl h) hg, H.live, H.off⟩
theorem Sim.drew (H : Sim B N w S s h a) : Sim B N w.drew S s h a := H.grow ⟨rfl, rfl, rfl, Nat.le_refl _, fun _ _ _ => rfl⟩
/-- a new block, owned -/
theorem Sim.push (H : Sim B N w S s h a) {w' : World} {e : Ent} (hg : Grw w w' (fun _ => False)) (he : ERel w' S e) (hb : ∀ g, e.blk g → w.heap.size ≤ g) : Sim B N w' S s (e :: h) a :=
  let H' := H.grow hg
  ⟨H'.ext, H.defs.keep (fun r hr _ => hg.block r hr id) (fun r hr => .inl hr) (fun z hz r hr => by
      rcases List.mem_cons.1 hz with rfl | hz
      · exact .inr (hb r hr)
      · exact .inl ⟨z, hz, hr⟩), H'.size, H'.slots, H'.lt, H.heap.push H.lt hg he hb, fun z hz g hg => by
    rcases List.mem_cons.1 hz with rfl | hz
    · exact .inr (Nat.le_trans H.ext.size (hb g hg))
    · exact H.live z hz g hg, H.off⟩
/-- an entry's block is written, or it moves to a new one -/
theorem Sim.repl (H : Sim B N w S s h a) {w' : World} {e e' : Ent} {h' : List Ent} (hp : Repl h e e' h') (hg : Grw w w' e.blk)
    (he : ERel w' S e') (hb : ∀ g, e'.blk g → e.blk g ∨ w.heap.size ≤ g) : Sim B N w' S s h' a := by
  have hmem : e ∈ h := by obtain ⟨x, y, rfl, _⟩ := hp.split; simp
  have hw := hg.block
  refine ⟨H.ext.step (md := e.blk) hg.os hg.tape hg.output ⟨hg.size, hw, fun _ h => h⟩ (fun b hb => H.live e hmem b hb) (fun _ h => .inl h), H.defs.keep (fun r hr hn => hw r hr (hn e hmem)) (fun r hr => .inl hr) (fun z hz r hr => ?_), H.size,
    H.slots.mono (fun _ h => h) (fun b hb => hw b (H.lt b hb) (fun e0 => H.heap.off e hmem b e0 hb)), fun b hb => Nat.lt_of_lt_of_le (H.lt b hb) hg.size, H.heap.repl hp H.lt hg he hb, fun z hz g hzg => ?_, H.off⟩
  · obtain ⟨x, y, rfl, rfl⟩ := hp.split
    rcases List.mem_append.1 hz with hz | hz
    · exact .inl ⟨z, List.mem_append_left _ hz, hr⟩
    · rcases List.mem_cons.1 hz with rfl | hz
      · rcases hb r hr with h1 | h1
        · exact .inl ⟨e, by simp, h1⟩
        · exact .inr h1
      · exact .inl ⟨z, List.mem_append_right _ (List.mem_cons_of_mem _ hz), hr⟩
  · obtain ⟨x, y, rfl, rfl⟩ := hp.split
    rcases List.mem_append.1 hz with hz | hz
    · exact H.live z (List.mem_append_left _ hz) g hzg
    · rcases List.mem_cons.1 hz with rfl | hz
      · rcases hb g hzg with h1 | h1
        · exact H.live e (by simp) g h1
        · exact .inr (Nat.le_trans H.ext.size h1)
      · exact H.live z (List.mem_append_right _ (List.mem_cons_of_mem _ hz)) g hzg
theorem Sim.freeze (H : Sim B N w S s h a) {e : Ent} {h' : List Ent} (hp : Pick h e h') : Sim B N w (fun b => S b ∨ e.blk b) s h' a := by
  have hmem : e ∈ h := by obtain ⟨x, y, rfl, _⟩ := hp.split; simp
  have hsub : ∀ z ∈ h', z ∈ h := fun z hz => by
    obtain ⟨x, y, rfl, rfl⟩ := hp.split
    rcases List.mem_append.1 hz with hz | hz
    · exact List.mem_append_left _ hz
    · exact List.mem_append_right _ (List.mem_cons_of_mem _ hz)
  refine ⟨H.ext.step (md := e.blk) rfl rfl rfl ⟨Nat.le_refl _, fun _ _ _ => rfl, fun _ h => .inl h⟩ (fun b hb => H.live e hmem b hb) (fun b hb => ?_), H.defs.keep (fun r hr hn => rfl) (fun r hr => ?_) (fun z hz r hr => .inl ⟨z, hsub z hz, hr⟩), H.size,
    H.slots.mono (fun _ h => .inl h) (fun _ _ => rfl), fun b hb => ?_, H.heap.freeze hp, fun z hz g hzg => H.live z (hsub z hz) g hzg, H.off⟩
  · rcases hb with h1 | h1
    · exact .inl h1
    · exact .inr (.inr h1)
  · rcases hr with h1 | h1
    · exact .inl h1
    · exact .inr (.inr ⟨e, hmem, h1⟩)
  · rcases hb with h1 | h1
    · exact H.lt b h1
    · exact (H.heap.ent e hmem).lt b h1

end

/-! ### operations that only compute -/
section
variable {P : Program}

/-- whatever the world: the value of an operation -/
def PV (P : Program) (o : Oper) (s : Slots) (y : AV) : Prop := ∀ (w : World) (S : Nat → Prop) (a : Act), SRel w S s a.tmps → ∃ v, (∀ w', (execOp a.eval o).run P w' = .ok (.value v) w') ∧ VRel w S y v

/-- an operation that looks at one block, which is stable or one of some entries -/
def LV (P : Program) (o : Oper) (s : Slots) (h : List Ent) (e : Option Ent) (y : AV) : Prop := ∀ (w : World) (S : Nat → Prop) (a : Act), SRel w S s a.tmps → HRel w S h →
  ∃ v b, (∀ w', w'.heap[b]? = w.heap[b]? → (execOp a.eval o).run P w' = .ok (.value v) w') ∧ VRel w S y v ∧ (S b ∨ ∃ e0, e = some e0 ∧ e0 ∈ h ∧ e0.blk b)

theorem pv_move {o : Oper} {s : Slots} {x : Operand} {y : AV} (ho : o.op = .move x) (hx : evA s x = some y) : PV P o s y := fun w S a hs =>
  ⟨_, fun w' => by simp only [execOp, ho]; rfl, hs.eval hx⟩
theorem pv_assign {o : Oper} {s : Slots} {x : Operand} {y : AV} (ho : o.op = .assign x) (hx : evA s x = some y) : PV P o s y := fun w S a hs =>
  ⟨_, fun w' => by simp only [execOp, ho]; rfl, hs.eval hx⟩
theorem SRel.lit {w : World} {S : Nat → Prop} {s : Slots} {a : Act} (h : SRel w S s a.tmps) {x : Operand} {v : Value} (hx : evA s x = some (.v v)) : a.eval x = v := (h.eval hx).lit_inv
theorem pv_pick {o : Oper} {s : Slots} {c x z : Operand} {b : Bool} {y : AV} (ho : o.op = .pick c x z) (hc : evA s c = some (.v (.bool b))) (hx : (if b then evA s x else evA s z) = some y) : PV P o s y := fun w S a hs => by
  cases b
  · exact ⟨_, fun w' => by simp only [execOp, ho, hs.lit hc]; rfl, hs.eval (by simpa using hx)⟩
  · exact ⟨_, fun w' => by simp only [execOp, ho, hs.lit hc]; rfl, hs.eval (by simpa using hx)⟩

/-! the program's types, as far as they are used -/
def f2 {α : Type} : List (Nat × α) → Nat → Option α
  | [], _ => none
  | (a, x) :: r, t => cond (Nat.beq a t) (some x) (f2 r t)
def f3 {α : Type} : List (Nat × Nat × α) → Nat → Nat → Option α
  | [], _, _ => none
  | (a, b, x) :: r, t, i => cond (Nat.beq a t && Nat.beq b i) (some x) (f3 r t i)
theorem f2_mem {α : Type} {l : List (Nat × α)} {t : Nat} {x : α} (h : f2 l t = some x) : (t, x) ∈ l := by
  induction l with
  | nil => simp [f2] at h
  | cons p r ih =>
    obtain ⟨a, y⟩ := p
    simp only [f2] at h
    cases hb : Nat.beq a t with
    | true => rw [hb] at h; simp at h; subst h; rw [Nat.eq_of_beq_eq_true hb]; simp
    | false => rw [hb] at h; exact List.mem_cons_of_mem _ (ih h)
theorem f3_mem {α : Type} {l : List (Nat × Nat × α)} {t i : Nat} {x : α} (h : f3 l t i = some x) : (t, i, x) ∈ l := by
  induction l with
  | nil => simp [f3] at h
  | cons p r ih =>
    obtain ⟨a, b, y⟩ := p
    simp only [f3] at h
    cases hb : (Nat.beq a t && Nat.beq b i) with
    | true =>
      rw [hb] at h; simp at h; subst h
      simp only [Bool.and_eq_true] at hb
      rw [Nat.eq_of_beq_eq_true hb.1, Nat.eq_of_beq_eq_true hb.2]; simp
    | false => rw [hb] at h; exact List.mem_cons_of_mem _ (ih h)

def fldB (P : Program) (e : Nat × Nat × Nat) : Bool :=
  match P.underlying e.1 with
  | some (.struct fs) => match fs[e.2.1]? with
    | some f => f.offset == e.2.2 && (match P.info? f.type with | some j => j.size != 0 | none => false)
    | none => false
  | _ => false
def aggB : TypeDesc → Bool
  | .struct _ | .array _ _ => true
  | _ => false
def sizB (P : Program) (e : Nat × Nat × Bool) : Bool :=
  (match P.info? e.1 with | some j => j.size == e.2.1 && j.size != 0 | none => false) && (match P.underlying e.1 with | some d => aggB d == e.2.2 | none => false)
def elmB (P : Program) (e : Nat × Nat × Nat × Nat) : Bool :=
  (match P.underlying e.1 with | some (.slice t) => t == e.2.1 | _ => false) && (match P.info? e.2.1 with | some j => j.size == e.2.2.1 && j.bytes == e.2.2.2 && j.size != 0 | none => false)
def arrB (P : Program) (e : Nat × Nat × Nat × Nat) : Bool :=
  (match P.underlying e.1 with | some (.array n t) => n == e.2.1 && t == e.2.2.1 | _ => false) && (match P.info? e.2.2.1 with | some j => j.size == e.2.2.2 && j.size != 0 | none => false)
def zOk (P : Program) : List (Nat × Value) → Prop
  | [] => True
  | (t, z) :: r => (P.info? t).map (·.zero) = some (some z) ∧ zOk P r
/-- a function with a body, entered when it is called -/
def fnB (P : Program) (f : Nat) : Bool := match P.funcs[f]? with | some fn => fn.name != "runtime.NumGoroutine" && fn.body.isSome | none => false
def plcB (P : Program) (e : Nat × List (Nat × Nat)) : Bool :=
  match P.underlying e.1 with
  | some (.struct fs) => (fs.toList.map fun f => (f.offset, (P.info? f.type).map (·.size))) == e.2.map fun x => (x.1, some x.2)
  | _ => false
structure TT (P : Program) where
  fns : List Nat
  fld : List (Nat × Nat × Nat)
  siz : List (Nat × Nat × Bool)
  elm : List (Nat × Nat × Nat × Nat)
  arr : List (Nat × Nat × Nat × Nat)
  zer : List (Nat × Value)
  plc : List (Nat × List (Nat × Nat))
  fldOk : fld.all (fldB P) = true
  sizOk : siz.all (sizB P) = true
  elmOk : elm.all (elmB P) = true
  arrOk : arr.all (arrB P) = true
  plcOk : plc.all (plcB P) = true
  zerOk : zOk P zer
  fnsOk : fns.all (fnB P) = true
  mixed : P.follows .mixedOrders = true

section
variable (T : TT P)
theorem TT.fld_at {t i o : Nat} (h : f3 T.fld t i = some o) : ∃ fs f j, P.underlying t = some (.struct fs) ∧ fs[i]? = some f ∧ f.offset = o ∧ P.info? f.type = some j ∧ j.size ≠ 0 := by
  have hb := List.all_eq_true.1 T.fldOk _ (f3_mem h)
  simp only [fldB] at hb
  split at hb
  · rename_i fs hu
    split at hb
    · rename_i f hf
      simp only [Bool.and_eq_true, beq_iff_eq] at hb
      obtain ⟨h1, h2⟩ := hb
      split at h2
      · rename_i j hj
        exact ⟨fs, f, j, hu, hf, h1, hj, by simpa using h2⟩
      · cases h2
    · cases hb
  · cases hb
theorem TT.siz_at {t n : Nat} {b : Bool} (h : f2 T.siz t = some (n, b)) : ∃ j d, P.info? t = some j ∧ j.size = n ∧ n ≠ 0 ∧ P.underlying t = some d ∧ aggB d = b := by
  have hb := List.all_eq_true.1 T.sizOk _ (f2_mem h)
  simp only [sizB, Bool.and_eq_true] at hb
  obtain ⟨h1, h2⟩ := hb
  split at h1
  · rename_i j hj
    split at h2
    · rename_i d hd
      simp only [Bool.and_eq_true, beq_iff_eq, bne_iff_ne] at h1 h2
      exact ⟨j, d, hj, h1.1, fun e => h1.2 (h1.1.trans e), hd, h2⟩
    · cases h2
  · cases h1
theorem TT.elm_at {t e n b : Nat} (h : f2 T.elm t = some (e, n, b)) : ∃ j, P.underlying t = some (.slice e) ∧ P.info? e = some j ∧ j.size = n ∧ j.bytes = b ∧ n ≠ 0 := by
  have hb := List.all_eq_true.1 T.elmOk _ (f2_mem h)
  simp only [elmB, Bool.and_eq_true] at hb
  obtain ⟨h1, h2⟩ := hb
  split at h1
  · rename_i u hu
    split at h2
    · rename_i j hj
      simp only [Bool.and_eq_true, beq_iff_eq, bne_iff_ne] at h1 h2
      subst h1
      exact ⟨j, hu, hj, h2.1.1, h2.1.2, fun e => h2.2 (h2.1.1.trans e)⟩
    · cases h2
  · cases h1
theorem TT.arr_at {t n e m : Nat} (h : f2 T.arr t = some (n, e, m)) : ∃ j, P.underlying t = some (.array n e) ∧ P.info? e = some j ∧ j.size = m ∧ m ≠ 0 := by
  have hb := List.all_eq_true.1 T.arrOk _ (f2_mem h)
  simp only [arrB, Bool.and_eq_true] at hb
  obtain ⟨h1, h2⟩ := hb
  split at h1
  · rename_i k u hu
    split at h2
    · rename_i j hj
      simp only [Bool.and_eq_true, beq_iff_eq, bne_iff_ne] at h1 h2
      obtain ⟨h3, h4⟩ := h1
      subst h3; subst h4
      exact ⟨j, hu, hj, h2.1, fun e => h2.2 (h2.1.trans e)⟩
    · cases h2
  · cases h1
theorem zOk_at {l : List (Nat × Value)} (hl : zOk P l) {t : Nat} {z : Value} (h : f2 l t = some z) : (P.info? t).map (·.zero) = some (some z) := by
  induction l with
  | nil => simp [f2] at h
  | cons p r ih =>
    obtain ⟨a, y⟩ := p
    simp only [f2] at h
    cases hb : Nat.beq a t with
    | true => rw [hb] at h; simp at h; subst h; rw [← Nat.eq_of_beq_eq_true hb]; exact hl.1
    | false => rw [hb] at h; exact ih hl.2 h
end

theorem run_isAgg' {t : TypeId} {d : TypeDesc} (h : P.underlying t = some d) (w : World) : (isAgg t).run P w = .ok (aggB d) w := by
  unfold isAgg
  simp only [Sem.run_bind, run_underlying h]
  cases d <;> simp [aggB]
theorem run_sizeOf' {t : TypeId} {i : TypeInfo} (h : P.info? t = some i) (w : World) : (sizeOf t).run P w = .ok i.size w := by
  simp [sizeOf, typeInfo, h]
end
end Go.Tl
