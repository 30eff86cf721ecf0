/- Ranges over functions, over plain trees: a call of yield, what an iterator comes to, the statement. -/
import Derived.Test.YtilhflfbbfeakaaTlb
import Derived.RangeFuncIn
namespace Go.Tl
open Go Go.RowKit
set_option linter.unusedVariables false
set_option linter.unusedSimpArgs false

/-- what a call of yield comes to -/
def YCall (P : Program) (l : Nat) (args : List AV) (hc : List Ent) (Q : AV → List Ent → Prop) : Prop :=
  ∀ (w : World) (S : Nat → Prop) (vs : List Value), (∀ b, S b → b < w.heap.size) → HRel w S hc → VRels w S args vs →
    ∃ f tmps assign body, (Instr.yield l vs.toArray).run P w = .ok (.round l f tmps assign body) w ∧
      RoundIn (FR none) 0 P l f tmps assign body w fun e w' => ∃ v S' r h', e = .returned v ∧ Q r h' ∧ VRel w' S' r v ∧ Ext ⟨w, S, Own hc⟩ w' S' ∧ (∀ b, S' b → b < w'.heap.size) ∧ HRel w' S' h' ∧ ∀ e ∈ h', ∀ g, e.blk g → Own hc g ∨ w.heap.size ≤ g
theorem YCall.mono {P : Program} {l : Nat} {args : List AV} {hc : List Ent} {Q Q' : AV → List Ent → Prop} (C : YCall P l args hc Q) (h : ∀ r h', Q r h' → Q' r h') : YCall P l args hc Q' := fun w S vs h1 h2 h3 => by
  obtain ⟨f, tmps, assign, body, e, hr⟩ := C w S vs h1 h2 h3
  exact ⟨f, tmps, assign, body, e, hr.mono fun e w' ⟨v, S', r, h', e1, hq, rest⟩ => ⟨v, S', r, h', e1, h r h' hq, rest⟩⟩

section
variable {P : Program} {N : Nat} {o : Oper} {md : Nat → Prop} {s : Slots} {h h1 : List Ent} {K : Slots → List Ent → Prop}
theorem aop_ycall {x : Operand} {xs : Array Operand} {ts : Array TypeId} {l d : Nat} {ys : List AV} {hc hf : List Ent} {Q : AV → List Ent → Prop} (C : YCall P l ys hc Q) (ho : o.op = .call { callee := .value x, args := xs, argTypes := ts }) (hd : o.dst = some d) (hN : Nat.blt d N = true)
    (hcal : evA s x = some (.v (.func (.yield l) #[] #[]))) (hx : Evs s xs.toList ys) (hsub : SubH (hc ++ hf) h) (hmd : ∀ b, Own hc b → md b)
    (hK : ∀ r h', Q r h' → K ((d, r) :: s) (h' ++ hf)) : AOp P N o md s h K := fun B w S a hs Kr Qr hk => by
  have hs0 : Sim B N w S s (hc ++ hf) a := hs.sub hsub
  have hev := hs.slots.lit hcal
  have hxs := hs.slots.evals hx.eq
  obtain ⟨f, tmps, assign, body, hy, hr⟩ := C w S _ hs.lt hs0.heap.left hxs
  have hrun : (execOp a.eval o).run P w = .ok (.round l f tmps assign body) w := by
    have e1 : xs.map a.eval = (xs.toList.map a.eval).toArray := by rw [← Array.toList_map]
    simp [execOp, ho, resolve, Deferred.ofValue, invoke, hev]
    rw [e1]
    exact hy
  unfold wpX
  rw [hrun, Oper.uponIn_round]
  refine ⟨fun h => (by cases h), hr.mono ?_⟩
  rintro e w' ⟨v, S', r, h', rfl, hq, hvr, E, hlt, hr, hl⟩
  rw [hd] at hk
  rw [hd]
  exact hk _ _ S' _ _ (hK r h' hq) ((hs0.call E hlt hr hl).put hvr (blt_lt hN)) ⟨E.size, fun b hb hnb => E.keep b hb (fun ho => hnb (hmd b ho)), E.stab⟩
end

/-- what an iterator comes to: it yields es 0, es 1, .. of m; whoever ranges over it is in a state of C k after k rounds, of X k when the round k has stopped it -/
def ISpec (P : Program) (f : Nat) (args : AV → List AV) (hc : List Ent) (m : Nat) (es : Nat → List AV) : Prop :=
  ∀ (l : Nat) (C X : Nat → Ob → Prop),
    (∀ k, k < m → ∀ o, C k o → YCall P l (es k) [.ob o] (fun r h' => ∃ o', h' = [.ob o'] ∧ ((r = boolA true ∧ C (k + 1) o') ∨ (r = boolA false ∧ X k o')))) →
    ∀ o, C 0 o → ACall P f (args (.v (.func (.yield l) #[] #[]))) (.ob o :: hc) (fun r h' => ∃ o', h' = [.ob o'] ∧ (C m o' ∨ ∃ k, k < m ∧ X k o'))

/-- who ranges: the record of the loop, the block of its mark, and all that it owns -/
def conOb (L D : Nat) (rec : Loop) (s : Slots) (h : List Ent) : Ob where
  fp := fun b => Own h b ∨ b = L ∨ b = D
  Φ := fun w S => (∀ e ∈ h, ERel w S e) ∧ SRel w S s rec.tmps ∧ w.heap[L]? = some (.loop rec) ∧ w.heap[D]? = some (.deferred (some []))
  lt := fun {w S} H g hg => by
    rcases hg with ⟨e, he, hb⟩ | rfl | rfl
    · exact (H.1 e he).lt g hb
    · exact (Array.getElem?_eq_some_iff.1 H.2.2.1).1
    · exact (Array.getElem?_eq_some_iff.1 H.2.2.2).1
  keep := fun {w w' S S'} H h1 h2 h3 h4 hS hw hg => ⟨fun e he => (H.1 e he).mono h1 h2 h3 h4 hS hw (fun g hb => hg g (.inl ⟨e, he, hb⟩)), H.2.1.mono hS hw, (hg L (.inr (.inl rfl))).trans H.2.2.1, (hg D (.inr (.inr rfl))).trans H.2.2.2⟩

def paramsS : List Tmp → List AV → Slots → Slots
  | p :: ps, y :: ys, s => paramsS ps ys ((p, y) :: s)
  | _, _, s => s
theorem paramsS_rel {w : World} {S : Nat → Prop} {N : Nat} : ∀ (ps : List Tmp) (ys : List AV) (vs : List Value) (s : Slots) (t : Array Value), (∀ p ∈ ps, p < N) → t.size = N → VRels w S ys vs → SRel w S s t →
    SRel w S (paramsS ps ys s) ((ps.zip vs).foldl (fun t (x : Tmp × Value) => t.setIfInBounds x.1 x.2) t) ∧ ((ps.zip vs).foldl (fun t (x : Tmp × Value) => t.setIfInBounds x.1 x.2) t).size = N
  | [], ys, vs, s, t, _, ht, _, hs => by simpa [paramsS] using ⟨hs, ht⟩
  | p :: ps, [], [], s, t, _, ht, _, hs => by simpa [paramsS] using ⟨hs, ht⟩
  | p :: ps, [], v :: vs, s, t, _, ht, hv, hs => by have := hv.1; simp at this
  | p :: ps, y :: ys, [], s, t, _, ht, hv, hs => by have := hv.1; simp at this
  | p :: ps, y :: ys, v :: vs, s, t, hp, ht, hv, hs => by
    have hvy : VRel w S y v := hv.2 0 y v rfl rfl
    have hv' : VRels w S ys vs := ⟨by have := hv.1; simpa using this, fun j a b ha hb => hv.2 (j + 1) a b (by simpa using ha) (by simpa using hb)⟩
    have hput : SRel w S ((p, y) :: s) (t.setIfInBounds p v) := SRel.put (a := { tmps := t, defers := [] }) hs hvy (by rw [ht]; exact hp p List.mem_cons_self)
    simp only [paramsS, List.zip_cons_cons, List.foldl_cons]
    exact paramsS_rel ps ys vs _ _ (fun q hq => hp q (List.mem_cons_of_mem _ hq)) (by simpa using ht) hv' hput

/-- how a round may be left -/
def stepQ (I : Nat → List Ent → Prop) (X : Nat → Exit → List Ent → Prop) (k : Nat) : Exit → Slots → List Ent → Prop
  | .normal, _, h => ∃ h', SubH h' h ∧ I (k + 1) h'
  | .ret, _, h => ∃ h', SubH h' h ∧ X k .ret h'
  | .exit id, _, h => ∃ h', SubH h' h ∧ X k (.exit id) h'
  | _, _, _ => False
/-- what may be written from here on -/
def Mine (h : List Ent) (ds : List Deferred) (b : Nat) : Prop := Own h b ∨ markD b ∈ ds
theorem Sim.mine {B : Base} {N : Nat} {w : World} {S : Nat → Prop} {s : Slots} {h : List Ent} {a : Act} (H : Sim B N w S s h a) {b : Nat} (hb : Mine h a.defers b) : (B.O b ∨ B.w.heap.size ≤ b) ∧ ¬ S b := by
  rcases hb with ⟨e, he, hb⟩ | hb
  · exact ⟨H.live e he b hb, H.heap.off e he b hb⟩
  · obtain ⟨rs, e, _, hr⟩ := H.defs
    rw [e, List.mem_map] at hb
    obtain ⟨r, hrs, e⟩ := hb
    simp only [markD, Deferred.mk.injEq, Target.collected.injEq, and_true] at e
    subst e
    exact ⟨(hr r hrs).2.2.1, (hr r hrs).2.1⟩
/-- a block that is neither owned nor stable is written; the base is set anew -/
theorem Sim.poke {B : Base} {N : Nat} {w : World} {S : Nat → Prop} {s : Slots} {h : List Ent} {a : Act} (H : Sim B N w S s h a) {r : Nat} (o : Obj) (hS : ¬ S r) (hr : ¬ Mine h a.defers r) : Sim ⟨w.putObj r o, S, Mine h a.defers⟩ N (w.putObj r o) S s h a := by
  have hoth : ∀ b, b ≠ r → (w.putObj r o).heap[b]? = w.heap[b]? := fun b hb => World.putObj_heap_other hb
  have hS' : ∀ b, S b → (w.putObj r o).heap[b]? = w.heap[b]? := fun b hb => hoth b (fun e => hS (e ▸ hb))
  refine ⟨⟨rfl, rfl, rfl, Nat.le_refl _, fun _ _ _ => rfl, fun _ h => h, fun _ h => .inl h⟩, ?_, H.size, H.slots.mono (fun _ h => h) hS', fun b hb => by simpa using H.lt b hb,
    ⟨fun e he => (H.heap.ent e he).mono rfl rfl rfl (by simp) (fun _ h => h) hS' (fun g hg => hoth g (fun e0 => hr (.inl ⟨e, he, e0 ▸ hg⟩))), H.heap.off, H.heap.sep⟩, fun e he g hg => .inl (.inl ⟨e, he, hg⟩), fun b hb hm => (H.mine hm).2 hb⟩
  obtain ⟨rs, e, hn, hq⟩ := H.defs
  refine ⟨rs, e, hn, fun q hqs => ?_⟩
  obtain ⟨h1, h2, h3, h4⟩ := hq q hqs
  have hm : Mine h a.defers q := .inr (by rw [e]; exact List.mem_map.2 ⟨q, hqs, rfl⟩)
  exact ⟨(hoth q (fun e0 => hr (e0 ▸ hm))).trans h1, h2, .inl hm, h4⟩

/-- the jump that is left behind -/
def jumpOf : Exit → Option Code
  | .ret => some .ret
  | .exit id => some (.exit id)
  | _ => none
def conC (L D : Nat) (rec : LoopState → Option Code → Loop) (s : Slots) (I : Nat → List Ent → Prop) (k : Nat) (o : Ob) : Prop :=
  ∃ h, I k h ∧ h.Pairwise Apart ∧ ¬ Own h L ∧ ¬ Own h D ∧ o = conOb L D (rec .ready none) s h
def conX (L D : Nat) (rec : LoopState → Option Code → Loop) (s : Slots) (X : Nat → Exit → List Ent → Prop) (k : Nat) (o : Ob) : Prop :=
  ∃ h e c, X k e h ∧ jumpOf e = some c ∧ h.Pairwise Apart ∧ ¬ Own h L ∧ ¬ Own h D ∧ o = conOb L D (rec .done (some c)) s h

section
variable {P : Program} {N : Nat} {s : Slots} {h : List Ent} {Q : Exit → Slots → List Ent → Prop}
theorem fold_list (ps : Array Tmp) (vs : List Value) (t : Array Value) : (ps.zip vs.toArray).foldl (fun tmps (t, a) => tmps.setIfInBounds t a) t = (ps.toList.zip vs).foldl (fun t (x : Tmp × Value) => t.setIfInBounds x.1 x.2) t := by
  rw [← Array.foldl_toList]
  simp

/-- one round -/
theorem ycall_round {ps : Array Tmp} {assign body : Code} {fn L D k : Nat} {t0 : Array Value} {ys : List AV} {I : Nat → List Ent → Prop} {X : Nat → Exit → List Ent → Prop}
    (hLD : L ≠ D) (ht0 : t0.size = N) (hes : ys.length = ps.size) (hpn : ∀ p ∈ ps.toList, p < N)
    (hround : ∀ h, I k h → AWP P N (some L) assign (fun e s1 h1 => e = .normal ∧ AWP P N (some L) body (stepQ I X k) s1 h1) (paramsS ps.toList ys s) h)
    {o : Ob} (hC : conC L D (fun st pe => { state := st, pending := pe, fn := fn, tmps := t0, params := ps, assign := assign, body := body, defers := D }) s I k o) :
    YCall P L ys [.ob o] (fun r h' => ∃ o', h' = [.ob o'] ∧ ((r = boolA true ∧ conC L D (fun st pe => { state := st, pending := pe, fn := fn, tmps := t0, params := ps, assign := assign, body := body, defers := D }) s I (k + 1) o') ∨
      (r = boolA false ∧ conX L D (fun st pe => { state := st, pending := pe, fn := fn, tmps := t0, params := ps, assign := assign, body := body, defers := D }) s X k o'))) := fun w S vs hlt hr hv => by
  obtain ⟨h, hI, hsep, hL, hD, rfl⟩ := hC
  obtain ⟨hents, hsr, hrec, hdef⟩ := hr.ent _ List.mem_cons_self
  have hoff : ∀ g, (Own h g ∨ g = L ∨ g = D) → ¬ S g := hr.off _ List.mem_cons_self
  have hLlt : L < w.heap.size := (Array.getElem?_eq_some_iff.1 hrec).1
  have hDlt : D < w.heap.size := (Array.getElem?_eq_some_iff.1 hdef).1
  have hheap : HRel w S h := ⟨hents, fun e he g hg => hoff g (.inl ⟨e, he, hg⟩), hsep⟩
  have hvl : vs.length = ps.size := by rw [← hv.1]; exact hes
  obtain ⟨hps, hsz⟩ := paramsS_rel ps.toList ys vs s t0 hpn ht0 hv hsr
  refine ⟨_, _, _, _, run_yield hrec (by simpa using hvl), roundIn_of_wpIn trivial ?_⟩
  simp only
  rw [fold_list]
  have hS0 : Sim ⟨w, S, Own h⟩ N w S (paramsS ps.toList ys s) h { tmps := (ps.toList.zip vs).foldl (fun t (x : Tmp × Value) => t.setIfInBounds x.1 x.2) t0, defers := [] } :=
    ⟨⟨rfl, rfl, rfl, Nat.le_refl _, fun _ _ _ => rfl, fun _ h => h, fun _ h => .inl h⟩, .nil, hsz, hps, hlt, hheap, fun e he g hg => .inl ⟨e, he, hg⟩, fun b hb ⟨e, he, hg⟩ => hheap.off e he b hg hb⟩
  refine Code.wpIn_mono (fun e a1 w1 hq => ?_) (hround h hI _ w S _ hS0)
  obtain ⟨S1, s1, h1, ⟨rfl, hb⟩, H1⟩ := hq
  have hm1 : ∀ b, b < w.heap.size → Mine h1 a1.defers b → Own h b := fun b hlt hm => by
    rcases (H1.mine hm).1 with h2 | h2
    · exact h2
    · exact absurd hlt (Nat.not_lt.2 h2)
  have hL1 : w1.heap[L]? = _ := (H1.ext.keep L hLlt hL).trans hrec
  have hD1 : w1.heap[D]? = _ := (H1.ext.keep D hDlt hD).trans hdef
  have hnS1 : ∀ b, b < w.heap.size → ¬ Own h b → ¬ S b → ¬ S1 b := fun b hb h1 h2 h3 => by
    rcases H1.ext.new b h3 with h4 | h4 | h4
    · exact h2 h4
    · exact absurd hb (Nat.not_lt.2 h4)
    · exact h1 h4
  refine ⟨_, run_beginRound hL1 rfl, ?_⟩
  have H2 := H1.poke (.loop { state := .busy, pending := none, fn := fn, tmps := t0, params := ps, assign := assign, body := body, defers := D }) (hnS1 L hLlt hL (hoff L (.inr (.inl rfl)))) (fun hm => hL (hm1 L hLlt hm))
  generalize hw2 : w1.putObj L (.loop { state := .busy, pending := none, fn := fn, tmps := t0, params := ps, assign := assign, body := body, defers := D }) = w2 at *
  have hsz1 : w.heap.size ≤ w1.heap.size := H1.ext.size
  have hsz2 : w1.heap.size = w2.heap.size := by rw [← hw2]; simp
  have hL2 : w2.heap[L]? = some (.loop { state := .busy, pending := none, fn := fn, tmps := t0, params := ps, assign := assign, body := body, defers := D }) := by rw [← hw2]; exact World.putObj_heap_same (by omega)
  have hoth2 : ∀ b, b ≠ L → w2.heap[b]? = w1.heap[b]? := fun b hb => by rw [← hw2]; exact World.putObj_heap_other hb
  refine Code.wpIn_mono (fun e a3 w3 hq => ?_) (hb _ w2 S1 a1 H2)
  obtain ⟨S3, s3, h3, hstep, H3⟩ := hq
  have hm3 : ∀ b, b < w.heap.size → Mine h3 a3.defers b → Own h b := fun b hlt hm => by
    rcases (H3.mine hm).1 with h2 | h2
    · exact hm1 b hlt h2
    · have : w2.heap.size ≤ b := h2
      omega
  have hL3 : w3.heap[L]? = _ := (H3.ext.keep L (by show L < w2.heap.size; omega) (fun hm => hL (hm1 L hLlt hm))).trans hL2
  have hD3 : w3.heap[D]? = _ := ((H3.ext.keep D (by show D < w2.heap.size; omega) (fun hm => hD (hm1 D hDlt hm))).trans (hoth2 D hLD.symm)).trans hD1
  have hnS3 : ∀ b, b < w.heap.size → ¬ Own h b → ¬ S b → ¬ S3 b := fun b hb h1 h2 h3 => by
    rcases H3.ext.new b h3 with h4 | h4 | h4
    · exact hnS1 b hb h1 h2 h4
    · have : w2.heap.size ≤ b := h4
      omega
    · exact h1 (hm1 b hb h4)
  have hsz3 : w2.heap.size ≤ w3.heap.size := H3.ext.size
  have fin : ∀ (jump : Option Code) (h4 : List Ent), SubH h4 h3 →
      ∃ v w4, (Instr.endRound L jump).run P w3 = .ok v w4 ∧ ∃ S' o', v = .bool jump.isNone ∧ o' = conOb L D { state := if jump.isNone then .ready else .done, pending := jump, fn := fn, tmps := t0, params := ps, assign := assign, body := body, defers := D } s h4 ∧
        h4.Pairwise Apart ∧ ¬ Own h4 L ∧ ¬ Own h4 D ∧ Ext ⟨w, S, Own [.ob (conOb L D { state := .ready, pending := none, fn := fn, tmps := t0, params := ps, assign := assign, body := body, defers := D } s h)]⟩ w4 S' ∧ (∀ b, S' b → b < w4.heap.size) ∧ HRel w4 S' [.ob o'] ∧
        ∀ e ∈ [Ent.ob o'], ∀ g, e.blk g → Own [.ob (conOb L D { state := .ready, pending := none, fn := fn, tmps := t0, params := ps, assign := assign, body := body, defers := D } s h)] g ∨ w.heap.size ≤ g := fun jump h4 hsub => by
    have hown : ∀ b, (Own h b ∨ b = L ∨ b = D) → Own [.ob (conOb L D { state := .ready, pending := none, fn := fn, tmps := t0, params := ps, assign := assign, body := body, defers := D } s h)] b := fun b hb => ⟨_, List.mem_cons_self, hb⟩
    have hown' : ∀ b, Own [.ob (conOb L D { state := .ready, pending := none, fn := fn, tmps := t0, params := ps, assign := assign, body := body, defers := D } s h)] b → (Own h b ∨ b = L ∨ b = D) := fun b ⟨e, he, hb⟩ => by
      rw [List.mem_singleton] at he
      subst he
      exact hb
    have h43 : ∀ b, Own h4 b → Own h3 b := fun b ⟨e, he, hb⟩ => ⟨e, hsub.mem e he, hb⟩
    have hoth4 : ∀ (o : Obj) b, b ≠ L → (w3.putObj L o).heap[b]? = w3.heap[b]? := fun o b hb => World.putObj_heap_other hb
    have hkeep : ∀ (o : Obj) b, b < w.heap.size → ¬ (Own h b ∨ b = L ∨ b = D) → (w3.putObj L o).heap[b]? = w.heap[b]? := fun o b hb hn => by
      have hbL : b ≠ L := fun e => hn (.inr (.inl e))
      have hbO : ¬ Own h b := fun e => hn (.inl e)
      rw [hoth4 o b hbL, H3.ext.keep b (by show b < w2.heap.size; omega) (fun hm => hbO (hm1 b hb hm)), hoth2 b hbL, H1.ext.keep b hb hbO]
    refine ⟨_, _, run_endRound jump hL3, S3, _, rfl, rfl, hsub.sep H3.heap.sep, fun hm => hL (hm3 L hLlt (.inl (h43 L hm))), fun hm => hD (hm3 D hDlt (.inl (h43 D hm))), ⟨?_, ?_, ?_, ?_, ?_, ?_, ?_⟩, ?_, ⟨?_, ?_, List.pairwise_singleton _ _⟩, ?_⟩
    · show w3.os = w.os
      rw [H3.ext.os]; show w2.os = w.os; rw [← hw2]; exact H1.ext.os
    · show w3.tape = w.tape
      rw [H3.ext.tape]; show w2.tape = w.tape; rw [← hw2]; exact H1.ext.tape
    · show w3.output = w.output
      rw [H3.ext.output]; show w2.output = w.output; rw [← hw2]; exact H1.ext.output
    · show w.heap.size ≤ _
      rw [World.putObj_size]
      omega
    · exact fun b hb hn => hkeep _ b hb (fun h => hn (hown b h))
    · exact fun b hb => H3.ext.stab b (H1.ext.stab b hb)
    · intro b hb
      rcases H3.ext.new b hb with h5 | h5 | h5
      · rcases H1.ext.new b h5 with h6 | h6 | h6
        · exact .inl h6
        · exact .inr (.inl h6)
        · exact .inr (.inr (hown b (.inl h6)))
      · have : w2.heap.size ≤ b := h5
        exact .inr (.inl (by show w.heap.size ≤ b; omega))
      · rcases Nat.lt_or_ge b w.heap.size with hb | hb
        · exact .inr (.inr (hown b (.inl (hm1 b hb h5))))
        · exact .inr (.inl hb)
    · intro b hb
      rw [World.putObj_size]
      exact H3.lt b hb
    · intro e he
      rw [List.mem_singleton] at he
      subst he
      have hSk : ∀ (o : Obj) b, S3 b → (w3.putObj L o).heap[b]? = w3.heap[b]? := fun o b hb => hoth4 o b (fun e => hnS3 L hLlt hL (hoff L (.inr (.inl rfl))) (e ▸ hb))
      refine ⟨fun e he => ((hsub.heap H3.heap).ent e he).mono rfl rfl rfl (by simp) (fun _ h => h) (hSk _) (fun g hg => hoth4 _ g (fun e0 => hL (hm3 L hLlt (.inl (h43 L ⟨e, he, e0 ▸ hg⟩))))), ?_, ?_, ?_⟩
      · exact hsr.mono (fun b hb => H3.ext.stab b (H1.ext.stab b hb)) (fun b hb => hkeep _ b (hlt b hb) (fun h => hoff b h hb))
      · exact World.putObj_heap_same (by omega)
      · rw [hoth4 _ D hLD.symm]; exact hD3
    · intro e he g hg
      rw [List.mem_singleton] at he
      subst he
      rcases hg with hg | rfl | rfl
      · obtain ⟨e, he, hg⟩ := h43 g hg
        exact H3.heap.off e he g hg
      · exact hnS3 g hLlt hL (hoff g (.inr (.inl rfl)))
      · exact hnS3 g hDlt hD (hoff g (.inr (.inr rfl)))
    · intro e he g hg
      rw [List.mem_singleton] at he
      subst he
      rcases hg with hg | hg | hg
      · rcases Nat.lt_or_ge g w.heap.size with hb | hb
        · exact .inl (hown g (.inl (hm3 g hb (.inl (h43 g hg)))))
        · exact .inr hb
      · exact .inl (hown g (.inr (.inl hg)))
      · exact .inl (hown g (.inr (.inr hg)))
  cases e with
  | normal =>
    obtain ⟨h4, hsub, hI4⟩ := hstep
    obtain ⟨v, w4, hrun, S', o', rfl, ho', f1, f2, f3, f4, f5, f6, f7⟩ := fin none h4 hsub
    exact ⟨_, _, hrun, _, S', boolA true, [.ob o'], rfl, ⟨o', rfl, .inl ⟨rfl, h4, hI4, f1, f2, f3, ho'⟩⟩, .v _, f4, f5, f6, f7⟩
  | ret =>
    obtain ⟨h4, hsub, hI4⟩ := hstep
    obtain ⟨v, w4, hrun, S', o', rfl, ho', f1, f2, f3, f4, f5, f6, f7⟩ := fin (some .ret) h4 hsub
    exact ⟨_, _, hrun, _, S', boolA false, [.ob o'], rfl, ⟨o', rfl, .inr ⟨rfl, h4, .ret, _, hI4, rfl, f1, f2, f3, ho'⟩⟩, .v _, f4, f5, f6, f7⟩
  | exit id =>
    obtain ⟨h4, hsub, hI4⟩ := hstep
    obtain ⟨v, w4, hrun, S', o', rfl, ho', f1, f2, f3, f4, f5, f6, f7⟩ := fin (some (.exit id)) h4 hsub
    exact ⟨_, _, hrun, _, S', boolA false, [.ob o'], rfl, ⟨o', rfl, .inr ⟨rfl, h4, .exit id, _, hI4, rfl, f1, f2, f3, ho'⟩⟩, .v _, f4, f5, f6, f7⟩
  | _ => exact hstep.elim
end
end Go.Tl
