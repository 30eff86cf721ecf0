/- Ranges over functions, over plain trees: a call of yield, a round, an iterator whose rounds are not known beforehand, the statement. -/
import Derived.Test.YtlpknbneilgjkaaTL
import Derived.RangeFuncIn
namespace Go.Tl
open Go Go.RowKit
set_option linter.unusedVariables false
set_option linter.unusedSimpArgs false
/-- what a call of yield comes to -/
def YCall (P : Program) (l : Nat) (args : List AV) (hc : List Ent) (Q : AV → List Ent → Prop) : Prop :=
  ∀ (w : World) (S : Nat → Prop) (vs : List Value), (∀ b, S b → b < w.heap.size) → HRel w S hc → VRels w S args vs →
    ∃ f tmps assign body, (Instr.yield l vs.toArray).run P w = .ok (.round l f tmps assign body) w ∧
      RoundIn (FR none) 0 P l f tmps assign body w fun e w' => ∃ v S' r h', e = .returned v ∧ Q r h' ∧ VRel w' S' r v ∧ Ext ⟨w, S, Own hc⟩ w' S' ∧ (∀ b, S' b → b < w'.heap.size) ∧ HRel w' S' h' ∧ ∀ e ∈ h', ∀ g, e.blk g → Own hc g ∨ w.heap.size ≤ g
theorem YCall.mono {P : Program} {l : Nat} {args : List AV} {hc : List Ent} {Q Q' : AV → List Ent → Prop} (C : YCall P l args hc Q) (h : ∀ r h', Q r h' → Q' r h') : YCall P l args hc Q' := fun w S vs h1 h2 h3 => by
  obtain ⟨f, tmps, assign, body, e, hr⟩ := C w S vs h1 h2 h3
  exact ⟨f, tmps, assign, body, e, hr.mono fun e w' ⟨v, S', r, h', e1, hq, rest⟩ => ⟨v, S', r, h', e1, h r h' hq, rest⟩⟩

section
variable {P : Program} {N : Nat} {o : Oper} {md : Nat → Prop} {s : Slots} {h h1 : List Ent} {K : Slots → List Ent → Prop}
theorem aop_ycall {x : Operand} {xs : Array Operand} {ts : Array TypeId} {l d : Nat} {ys : List AV} {hc hf : List Ent} {Q : AV → List Ent → Prop} (C : YCall P l ys hc Q) (ho : o.op = .call { callee := .value x, args := xs, argTypes := ts }) (hd : o.dst = some d) (hN : Nat.blt d N = true)
    (hcal : evA s x = some (.v (.func (.yield l) #[] #[]))) (hx : Evs s xs.toList ys) (hsub : SubH (hc ++ hf) h) (hmd : ∀ b, Own hc b → md b)
    (hK : ∀ r h', Q r h' → K ((d, r) :: s) (h' ++ hf)) : AOp P N o md s h K := fun B w S a hs Kr Qr hk => by
  have hs0 : Sim B N w S s (hc ++ hf) a := hs.sub hsub
  have hev := hs.slots.lit hcal
  have hxs := hs.slots.evals hx.eq
  obtain ⟨f, tmps, assign, body, hy, hr⟩ := C w S _ hs.lt hs0.heap.left hxs
  have hrun : (execOp a.eval o).run P w = .ok (.round l f tmps assign body) w := by
    have e1 : xs.map a.eval = (xs.toList.map a.eval).toArray := by rw [← Array.toList_map]
    simp [execOp, ho, resolve, Deferred.ofValue, invoke, hev]
    rw [e1]
    exact hy
  unfold wpX
  rw [hrun, Oper.uponIn_round]
  refine ⟨fun h => (by cases h), hr.mono ?_⟩
  rintro e w' ⟨v, S', r, h', rfl, hq, hvr, E, hlt, hr, hl⟩
  rw [hd] at hk
  rw [hd]
  exact hk _ _ S' _ _ (hK r h' hq) ((hs0.call E hlt hr hl).put hvr (blt_lt hN)) ⟨E.size, fun b hb hnb => E.keep b hb (fun ho => hnb (hmd b ho)), E.stab⟩
end

/-- who ranges: the record of the loop, the block of its mark, and all that it owns -/
def conOb (L D : Nat) (rec : Loop) (s : Slots) (h : List Ent) : Ob where
  fp := fun b => Own h b ∨ b = L ∨ b = D
  Φ := fun w S => (∀ e ∈ h, ERel w S e) ∧ SRel w S s rec.tmps ∧ w.heap[L]? = some (.loop rec) ∧ w.heap[D]? = some (.deferred (some []))
  lt := fun {w S} H g hg => by
    rcases hg with ⟨e, he, hb⟩ | rfl | rfl
    · exact (H.1 e he).lt g hb
    · exact (Array.getElem?_eq_some_iff.1 H.2.2.1).1
    · exact (Array.getElem?_eq_some_iff.1 H.2.2.2).1
  keep := fun {w w' S S'} H h1 h2 h3 h4 hS hw hg => ⟨fun e he => (H.1 e he).mono h1 h2 h3 h4 hS hw (fun g hb => hg g (.inl ⟨e, he, hb⟩)), H.2.1.mono hS hw, (hg L (.inr (.inl rfl))).trans H.2.2.1, (hg D (.inr (.inr rfl))).trans H.2.2.2⟩

def paramsS : List Tmp → List AV → Slots → Slots
  | p :: ps, y :: ys, s => paramsS ps ys ((p, y) :: s)
  | _, _, s => s
theorem paramsS_rel {w : World} {S : Nat → Prop} {N : Nat} : ∀ (ps : List Tmp) (ys : List AV) (vs : List Value) (s : Slots) (t : Array Value), (∀ p ∈ ps, p < N) → t.size = N → VRels w S ys vs → SRel w S s t →
    SRel w S (paramsS ps ys s) ((ps.zip vs).foldl (fun t (x : Tmp × Value) => t.setIfInBounds x.1 x.2) t) ∧ ((ps.zip vs).foldl (fun t (x : Tmp × Value) => t.setIfInBounds x.1 x.2) t).size = N
  | [], ys, vs, s, t, _, ht, _, hs => by simpa [paramsS] using ⟨hs, ht⟩
  | p :: ps, [], [], s, t, _, ht, _, hs => by simpa [paramsS] using ⟨hs, ht⟩
  | p :: ps, [], v :: vs, s, t, _, ht, hv, hs => by have := hv.1; simp at this
  | p :: ps, y :: ys, [], s, t, _, ht, hv, hs => by have := hv.1; simp at this
  | p :: ps, y :: ys, v :: vs, s, t, hp, ht, hv, hs => by
    have hvy : VRel w S y v := hv.2 0 y v rfl rfl
    have hv' : VRels w S ys vs := ⟨by have := hv.1; simpa using this, fun j a b ha hb => hv.2 (j + 1) a b (by simpa using ha) (by simpa using hb)⟩
    have hput : SRel w S ((p, y) :: s) (t.setIfInBounds p v) := SRel.put (a := { tmps := t, defers := [] }) hs hvy (by rw [ht]; exact hp p List.mem_cons_self)
    simp only [paramsS, List.zip_cons_cons, List.foldl_cons]
    exact paramsS_rel ps ys vs _ _ (fun q hq => hp q (List.mem_cons_of_mem _ hq)) (by simpa using ht) hv' hput

/-- how a round may be left -/
def stepQ (I : Nat → List Ent → Prop) (X : Nat → Exit → List Ent → Prop) (k : Nat) : Exit → Slots → List Ent → Prop
  | .normal, _, h => ∃ h', SubH h' h ∧ I (k + 1) h'
  | .ret, _, h => ∃ h', SubH h' h ∧ X k .ret h'
  | .exit id, _, h => ∃ h', SubH h' h ∧ X k (.exit id) h'
  | _, _, _ => False
/-- what may be written from here on -/
def Mine (h : List Ent) (ds : List Deferred) (b : Nat) : Prop := Own h b ∨ markD b ∈ ds
theorem Sim.mine {B : Base} {N : Nat} {w : World} {S : Nat → Prop} {s : Slots} {h : List Ent} {a : Act} (H : Sim B N w S s h a) {b : Nat} (hb : Mine h a.defers b) : (B.O b ∨ B.w.heap.size ≤ b) ∧ ¬ S b := by
  rcases hb with ⟨e, he, hb⟩ | hb
  · exact ⟨H.live e he b hb, H.heap.off e he b hb⟩
  · obtain ⟨rs, e, _, hr⟩ := H.defs
    rw [e, List.mem_map] at hb
    obtain ⟨r, hrs, e⟩ := hb
    simp only [markD, Deferred.mk.injEq, Target.collected.injEq, and_true] at e
    subst e
    exact ⟨(hr r hrs).2.2.1, (hr r hrs).2.1⟩
/-- a block that is neither owned nor stable is written; the base is set anew -/
theorem Sim.poke {B : Base} {N : Nat} {w : World} {S : Nat → Prop} {s : Slots} {h : List Ent} {a : Act} (H : Sim B N w S s h a) {r : Nat} (o : Obj) (hS : ¬ S r) (hr : ¬ Mine h a.defers r) : Sim ⟨w.putObj r o, S, Mine h a.defers⟩ N (w.putObj r o) S s h a := by
  have hoth : ∀ b, b ≠ r → (w.putObj r o).heap[b]? = w.heap[b]? := fun b hb => World.putObj_heap_other hb
  have hS' : ∀ b, S b → (w.putObj r o).heap[b]? = w.heap[b]? := fun b hb => hoth b (fun e => hS (e ▸ hb))
  refine ⟨⟨rfl, rfl, rfl, Nat.le_refl _, fun _ _ _ => rfl, fun _ h => h, fun _ h => .inl h⟩, ?_, H.size, H.slots.mono (fun _ h => h) hS', fun b hb => by simpa using H.lt b hb,
    ⟨fun e he => (H.heap.ent e he).mono rfl rfl rfl (by simp) (fun _ h => h) hS' (fun g hg => hoth g (fun e0 => hr (.inl ⟨e, he, e0 ▸ hg⟩))), H.heap.off, H.heap.sep⟩, fun e he g hg => .inl (.inl ⟨e, he, hg⟩), fun b hb hm => (H.mine hm).2 hb⟩
  obtain ⟨rs, e, hn, hq⟩ := H.defs
  refine ⟨rs, e, hn, fun q hqs => ?_⟩
  obtain ⟨h1, h2, h3, h4⟩ := hq q hqs
  have hm : Mine h a.defers q := .inr (by rw [e]; exact List.mem_map.2 ⟨q, hqs, rfl⟩)
  exact ⟨(hoth q (fun e0 => hr (e0 ▸ hm))).trans h1, h2, .inl hm, h4⟩

/-- the jump that is left behind -/
def jumpOf : Exit → Option Code
  | .ret => some .ret
  | .exit id => some (.exit id)
  | _ => none
def conC (L D : Nat) (rec : LoopState → Option Code → Loop) (s : Slots) (I : Nat → List Ent → Prop) (k : Nat) (o : Ob) : Prop :=
  ∃ h, I k h ∧ h.Pairwise Apart ∧ ¬ Own h L ∧ ¬ Own h D ∧ o = conOb L D (rec .ready none) s h
def conX (L D : Nat) (rec : LoopState → Option Code → Loop) (s : Slots) (X : Nat → Exit → List Ent → Prop) (k : Nat) (o : Ob) : Prop :=
  ∃ h e c, X k e h ∧ jumpOf e = some c ∧ h.Pairwise Apart ∧ ¬ Own h L ∧ ¬ Own h D ∧ o = conOb L D (rec .done (some c)) s h

section
variable {P : Program} {N : Nat} {s : Slots} {h : List Ent} {Q : Exit → Slots → List Ent → Prop}
/-- one round -/
theorem ycall_round {ps : Array Tmp} {assign body : Code} {fn L D k : Nat} {t0 : Array Value} {ys : List AV} {I : Nat → List Ent → Prop} {X : Nat → Exit → List Ent → Prop}
    (hLD : L ≠ D) (ht0 : t0.size = N) (hes : ys.length = ps.size) (hpn : ∀ p ∈ ps.toList, p < N)
    (hround : ∀ h, I k h → AWP P N (some L) assign (fun e s1 h1 => e = .normal ∧ AWP P N (some L) body (stepQ I X k) s1 h1) (paramsS ps.toList ys s) h)
    {o : Ob} (hC : conC L D (fun st pe => { state := st, pending := pe, fn := fn, tmps := t0, params := ps, assign := assign, body := body, defers := D }) s I k o) :
    YCall P L ys [.ob o] (fun r h' => ∃ o', h' = [.ob o'] ∧ ((r = boolA true ∧ conC L D (fun st pe => { state := st, pending := pe, fn := fn, tmps := t0, params := ps, assign := assign, body := body, defers := D }) s I (k + 1) o') ∨
      (r = boolA false ∧ conX L D (fun st pe => { state := st, pending := pe, fn := fn, tmps := t0, params := ps, assign := assign, body := body, defers := D }) s X k o'))) := fun w S vs hlt hr hv => by
  obtain ⟨h, hI, hsep, hL, hD, rfl⟩ := hC
  obtain ⟨hents, hsr, hrec, hdef⟩ := hr.ent _ List.mem_cons_self
  have hoff : ∀ g, (Own h g ∨ g = L ∨ g = D) → ¬ S g := hr.off _ List.mem_cons_self
  have hLlt : L < w.heap.size := (Array.getElem?_eq_some_iff.1 hrec).1
  have hDlt : D < w.heap.size := (Array.getElem?_eq_some_iff.1 hdef).1
  have hheap : HRel w S h := ⟨hents, fun e he g hg => hoff g (.inl ⟨e, he, hg⟩), hsep⟩
  have hvl : vs.length = ps.size := by rw [← hv.1]; exact hes
  obtain ⟨hps, hsz⟩ := paramsS_rel ps.toList ys vs s t0 hpn ht0 hv hsr
  refine ⟨_, _, _, _, run_yield hrec (by simpa using hvl), roundIn_of_wpIn trivial ?_⟩
  simp only
  rw [fold_list]
  have hS0 : Sim ⟨w, S, Own h⟩ N w S (paramsS ps.toList ys s) h { tmps := (ps.toList.zip vs).foldl (fun t (x : Tmp × Value) => t.setIfInBounds x.1 x.2) t0, defers := [] } :=
    ⟨⟨rfl, rfl, rfl, Nat.le_refl _, fun _ _ _ => rfl, fun _ h => h, fun _ h => .inl h⟩, .nil, hsz, hps, hlt, hheap, fun e he g hg => .inl ⟨e, he, hg⟩, fun b hb ⟨e, he, hg⟩ => hheap.off e he b hg hb⟩
  refine Code.wpIn_mono (fun e a1 w1 hq => ?_) (hround h hI _ w S _ hS0)
  obtain ⟨S1, s1, h1, ⟨rfl, hb⟩, H1⟩ := hq
  have hm1 : ∀ b, b < w.heap.size → Mine h1 a1.defers b → Own h b := fun b hlt hm => by
    rcases (H1.mine hm).1 with h2 | h2
    · exact h2
    · exact absurd hlt (Nat.not_lt.2 h2)
  have hL1 : w1.heap[L]? = _ := (H1.ext.keep L hLlt hL).trans hrec
  have hD1 : w1.heap[D]? = _ := (H1.ext.keep D hDlt hD).trans hdef
  have hnS1 : ∀ b, b < w.heap.size → ¬ Own h b → ¬ S b → ¬ S1 b := fun b hb h1 h2 h3 => by
    rcases H1.ext.new b h3 with h4 | h4 | h4
    · exact h2 h4
    · exact absurd hb (Nat.not_lt.2 h4)
    · exact h1 h4
  refine ⟨_, run_beginRound hL1 rfl, ?_⟩
  have H2 := H1.poke (.loop { state := .busy, pending := none, fn := fn, tmps := t0, params := ps, assign := assign, body := body, defers := D }) (hnS1 L hLlt hL (hoff L (.inr (.inl rfl)))) (fun hm => hL (hm1 L hLlt hm))
  generalize hw2 : w1.putObj L (.loop { state := .busy, pending := none, fn := fn, tmps := t0, params := ps, assign := assign, body := body, defers := D }) = w2 at *
  have hsz1 : w.heap.size ≤ w1.heap.size := H1.ext.size
  have hsz2 : w1.heap.size = w2.heap.size := by rw [← hw2]; simp
  have hL2 : w2.heap[L]? = some (.loop { state := .busy, pending := none, fn := fn, tmps := t0, params := ps, assign := assign, body := body, defers := D }) := by rw [← hw2]; exact World.putObj_heap_same (by omega)
  have hoth2 : ∀ b, b ≠ L → w2.heap[b]? = w1.heap[b]? := fun b hb => by rw [← hw2]; exact World.putObj_heap_other hb
  refine Code.wpIn_mono (fun e a3 w3 hq => ?_) (hb _ w2 S1 a1 H2)
  obtain ⟨S3, s3, h3, hstep, H3⟩ := hq
  have hm3 : ∀ b, b < w.heap.size → Mine h3 a3.defers b → Own h b := fun b hlt hm => by
    rcases (H3.mine hm).1 with h2 | h2
    · exact hm1 b hlt h2
    · have : w2.heap.size ≤ b := h2
      omega
  have hL3 : w3.heap[L]? = _ := (H3.ext.keep L (by show L < w2.heap.size; omega) (fun hm => hL (hm1 L hLlt hm))).trans hL2
  have hD3 : w3.heap[D]? = _ := ((H3.ext.keep D (by show D < w2.heap.size; omega) (fun hm => hD (hm1 D hDlt hm))).trans (hoth2 D hLD.symm)).trans hD1
  have hnS3 : ∀ b, b < w.heap.size → ¬ Own h b → ¬ S b → ¬ S3 b := fun b hb h1 h2 h3 => by
    rcases H3.ext.new b h3 with h4 | h4 | h4
    · exact hnS1 b hb h1 h2 h4
    · have : w2.heap.size ≤ b := h4
      omega
    · exact h1 (hm1 b hb h4)
  have hsz3 : w2.heap.size ≤ w3.heap.size := H3.ext.size
  have fin : ∀ (jump : Option Code) (h4 : List Ent), SubH h4 h3 →
      ∃ v w4, (Instr.endRound L jump).run P w3 = .ok v w4 ∧ ∃ S' o', v = .bool jump.isNone ∧ o' = conOb L D { state := if jump.isNone then .ready else .done, pending := jump, fn := fn, tmps := t0, params := ps, assign := assign, body := body, defers := D } s h4 ∧
        h4.Pairwise Apart ∧ ¬ Own h4 L ∧ ¬ Own h4 D ∧ Ext ⟨w, S, Own [.ob (conOb L D { state := .ready, pending := none, fn := fn, tmps := t0, params := ps, assign := assign, body := body, defers := D } s h)]⟩ w4 S' ∧ (∀ b, S' b → b < w4.heap.size) ∧ HRel w4 S' [.ob o'] ∧
        ∀ e ∈ [Ent.ob o'], ∀ g, e.blk g → Own [.ob (conOb L D { state := .ready, pending := none, fn := fn, tmps := t0, params := ps, assign := assign, body := body, defers := D } s h)] g ∨ w.heap.size ≤ g := fun jump h4 hsub => by
    have hown : ∀ b, (Own h b ∨ b = L ∨ b = D) → Own [.ob (conOb L D { state := .ready, pending := none, fn := fn, tmps := t0, params := ps, assign := assign, body := body, defers := D } s h)] b := fun b hb => ⟨_, List.mem_cons_self, hb⟩
    have hown' : ∀ b, Own [.ob (conOb L D { state := .ready, pending := none, fn := fn, tmps := t0, params := ps, assign := assign, body := body, defers := D } s h)] b → (Own h b ∨ b = L ∨ b = D) := fun b ⟨e, he, hb⟩ => by
      rw [List.mem_singleton] at he
      subst he
      exact hb
    have h43 : ∀ b, Own h4 b → Own h3 b := fun b ⟨e, he, hb⟩ => ⟨e, hsub.mem e he, hb⟩
    have hoth4 : ∀ (o : Obj) b, b ≠ L → (w3.putObj L o).heap[b]? = w3.heap[b]? := fun o b hb => World.putObj_heap_other hb
    have hkeep : ∀ (o : Obj) b, b < w.heap.size → ¬ (Own h b ∨ b = L ∨ b = D) → (w3.putObj L o).heap[b]? = w.heap[b]? := fun o b hb hn => by
      have hbL : b ≠ L := fun e => hn (.inr (.inl e))
      have hbO : ¬ Own h b := fun e => hn (.inl e)
      rw [hoth4 o b hbL, H3.ext.keep b (by show b < w2.heap.size; omega) (fun hm => hbO (hm1 b hb hm)), hoth2 b hbL, H1.ext.keep b hb hbO]
    refine ⟨_, _, run_endRound jump hL3, S3, _, rfl, rfl, hsub.sep H3.heap.sep, fun hm => hL (hm3 L hLlt (.inl (h43 L hm))), fun hm => hD (hm3 D hDlt (.inl (h43 D hm))), ⟨?_, ?_, ?_, ?_, ?_, ?_, ?_⟩, ?_, ⟨?_, ?_, List.pairwise_singleton _ _⟩, ?_⟩
    · show w3.os = w.os
      rw [H3.ext.os]; show w2.os = w.os; rw [← hw2]; exact H1.ext.os
    · show w3.tape = w.tape
      rw [H3.ext.tape]; show w2.tape = w.tape; rw [← hw2]; exact H1.ext.tape
    · show w3.output = w.output
      rw [H3.ext.output]; show w2.output = w.output; rw [← hw2]; exact H1.ext.output
    · show w.heap.size ≤ _
      rw [World.putObj_size]
      omega
    · exact fun b hb hn => hkeep _ b hb (fun h => hn (hown b h))
    · exact fun b hb => H3.ext.stab b (H1.ext.stab b hb)
    · intro b hb
      rcases H3.ext.new b hb with h5 | h5 | h5
      · rcases H1.ext.new b h5 with h6 | h6 | h6
        · exact .inl h6
        · exact .inr (.inl h6)
        · exact .inr (.inr (hown b (.inl h6)))
      · have : w2.heap.size ≤ b := h5
        exact .inr (.inl (by show w.heap.size ≤ b; omega))
      · rcases Nat.lt_or_ge b w.heap.size with hb | hb
        · exact .inr (.inr (hown b (.inl (hm1 b hb h5))))
        · exact .inr (.inl hb)
    · intro b hb
      rw [World.putObj_size]
      exact H3.lt b hb
    · intro e he
      rw [List.mem_singleton] at he
      subst he
      have hSk : ∀ (o : Obj) b, S3 b → (w3.putObj L o).heap[b]? = w3.heap[b]? := fun o b hb => hoth4 o b (fun e => hnS3 L hLlt hL (hoff L (.inr (.inl rfl))) (e ▸ hb))
      refine ⟨fun e he => ((hsub.heap H3.heap).ent e he).mono rfl rfl rfl (by simp) (fun _ h => h) (hSk _) (fun g hg => hoth4 _ g (fun e0 => hL (hm3 L hLlt (.inl (h43 L ⟨e, he, e0 ▸ hg⟩))))), ?_, ?_, ?_⟩
      · exact hsr.mono (fun b hb => H3.ext.stab b (H1.ext.stab b hb)) (fun b hb => hkeep _ b (hlt b hb) (fun h => hoff b h hb))
      · exact World.putObj_heap_same (by omega)
      · rw [hoth4 _ D hLD.symm]; exact hD3
    · intro e he g hg
      rw [List.mem_singleton] at he
      subst he
      rcases hg with hg | rfl | rfl
      · obtain ⟨e, he, hg⟩ := h43 g hg
        exact H3.heap.off e he g hg
      · exact hnS3 g hLlt hL (hoff g (.inr (.inl rfl)))
      · exact hnS3 g hDlt hD (hoff g (.inr (.inr rfl)))
    · intro e he g hg
      rw [List.mem_singleton] at he
      subst he
      rcases hg with hg | hg | hg
      · rcases Nat.lt_or_ge g w.heap.size with hb | hb
        · exact .inl (hown g (.inl (hm3 g hb (.inl (h43 g hg)))))
        · exact .inr hb
      · exact .inl (hown g (.inr (.inl hg)))
      · exact .inl (hown g (.inr (.inr hg)))
  cases e with
  | normal =>
    obtain ⟨h4, hsub, hI4⟩ := hstep
    obtain ⟨v, w4, hrun, S', o', rfl, ho', f1, f2, f3, f4, f5, f6, f7⟩ := fin none h4 hsub
    exact ⟨_, _, hrun, _, S', boolA true, [.ob o'], rfl, ⟨o', rfl, .inl ⟨rfl, h4, hI4, f1, f2, f3, ho'⟩⟩, .v _, f4, f5, f6, f7⟩
  | ret =>
    obtain ⟨h4, hsub, hI4⟩ := hstep
    obtain ⟨v, w4, hrun, S', o', rfl, ho', f1, f2, f3, f4, f5, f6, f7⟩ := fin (some .ret) h4 hsub
    exact ⟨_, _, hrun, _, S', boolA false, [.ob o'], rfl, ⟨o', rfl, .inr ⟨rfl, h4, .ret, _, hI4, rfl, f1, f2, f3, ho'⟩⟩, .v _, f4, f5, f6, f7⟩
  | exit id =>
    obtain ⟨h4, hsub, hI4⟩ := hstep
    obtain ⟨v, w4, hrun, S', o', rfl, ho', f1, f2, f3, f4, f5, f6, f7⟩ := fin (some (.exit id)) h4 hsub
    exact ⟨_, _, hrun, _, S', boolA false, [.ob o'], rfl, ⟨o', rfl, .inr ⟨rfl, h4, .exit id, _, hI4, rfl, f1, f2, f3, ho'⟩⟩, .v _, f4, f5, f6, f7⟩
  | _ => exact hstep.elim
end
/-- what an iterator comes to: what it has yielded is a list of Pre; of Full, when it ends by itself -/
def ISpecP (P : Program) (f : Nat) (args : AV → List AV) (hc : List Ent) (Pre Full : List (List AV) → Prop) : Prop :=
  ∀ (l : Nat) (C X : List (List AV) → Ob → Prop),
    (∀ pre y, Pre (pre ++ [y]) → ∀ o, C pre o → YCall P l y [.ob o] (fun r h' => ∃ o', h' = [.ob o'] ∧ ((r = boolA true ∧ C (pre ++ [y]) o') ∨ (r = boolA false ∧ X (pre ++ [y]) o')))) →
    ∀ o, C [] o → ACall P f (args (.v (.func (.yield l) #[] #[]))) (.ob o :: hc) (fun r h' => ∃ o', h' = [.ob o'] ∧ ((∃ L, Full L ∧ C L o') ∨ ∃ L, Pre L ∧ X L o'))
/-- before, and after -/
def nx (A B : List Ent → Prop) : Nat → List Ent → Prop
  | 0 => A
  | _ + 1 => B
section
variable {P : Program} {N : Nat} {s : Slots} {h : List Ent} {Q : Exit → Slots → List Ent → Prop}
theorem awp_rangeFuncC (T : TT P) {g : Operand} {ps : Array Tmp} {assign body : Code} {yc : AV} {f : Nat} {fs cs : List AV} {hc hf : List Ent} {Pre Full : List (List AV) → Prop} (I : List (List AV) → List Ent → Prop) (X : List (List AV) → Exit → List Ent → Prop)
    (hcal : evA s g = some yc) (hcl : Callee yc f fs cs) (hfn : T.fns.any (Nat.beq f) = true) (it : ∀ (D L : Nat) (rec : LoopState → Option Code → Loop), (∀ pre y, Pre (pre ++ [y]) → ∀ o, conC L D rec s (fun _ => I pre) 0 o → YCall P L y [.ob o] (fun r h' => ∃ o', h' = [.ob o'] ∧ ((r = boolA true ∧ conC L D rec s (fun _ => I (pre ++ [y])) 0 o') ∨ (r = boolA false ∧ conX L D rec s (fun _ => X (pre ++ [y])) 0 o')))) →
      ∀ o, conC L D rec s (fun _ => I []) 0 o → ACall P f (fs ++ [.v (.func (.yield L) #[] #[])] ++ cs) (.ob o :: hc) (fun r h' => ∃ o', h' = [.ob o'] ∧ ((∃ L', Full L' ∧ conC L D rec s (fun _ => I L') 0 o') ∨ ∃ L', Pre L' ∧ conX L D rec s (fun _ => X L') 0 o'))) (hsub : SubH (hc ++ hf) h) (hI : I [] hf)
    (hes : ∀ pre y, Pre (pre ++ [y]) → y.length = ps.size) (hpn : ps.toList.all (fun p => Nat.blt p N) = true)
    (hround : ∀ l pre y h', Pre (pre ++ [y]) → I pre h' → AWP P N (some l) assign (fun e s1 h1 => e = .normal ∧ AWP P N (some l) body (stepQ (nx (I pre) (I (pre ++ [y]))) (fun _ => X (pre ++ [y])) 0) s1 h1) (paramsS ps.toList y s) h')
    (hdone : ∀ L h', Full L → I L h' → Q .normal s h') (hret : ∀ L h', Pre L → X L .ret h' → Q .ret s h') (hexit : ∀ L id h', Pre L → X L (.exit id) h' → Q (.exit id) s h') : AWP P N none (.rangeFunc g ps assign body) Q s h := fun B w S a hs0 => by
  have hs := hs0.sub hsub
  refine wpIn_rangeFunc (F := FR none) ?_
  intro fn _
  obtain ⟨vs, us, hev, hvs, hus⟩ := hcl w S _ (hs.slots.eval hcal)
  obtain ⟨rec, hrec⟩ : ∃ rec : LoopState → Option Code → Loop, rec = fun st pe => { state := st, pending := pe, fn := fn, tmps := a.tmps, params := ps, assign := assign, body := body, defers := w.heap.size } := ⟨_, rfl⟩
  obtain ⟨W1, hW1⟩ : ∃ W1, (w.alloc (.deferred (some []))).alloc (.loop (rec .ready none)) = W1 := ⟨_, rfl⟩
  have hsz : W1.heap.size = w.heap.size + 2 := by rw [← hW1]; simp
  have hL1 : W1.heap[w.heap.size + 1]? = some (.loop (rec .ready none)) := by
    rw [← hW1]; have := World.alloc_heap_new (w.alloc (.deferred (some []))) (.loop (rec .ready none)); rwa [World.size_alloc] at this
  have hK1 : W1.heap[w.heap.size]? = some (.deferred (some [])) := by
    rw [← hW1]; exact (Below.heap_alloc _ _ _ (by simp)).trans (World.alloc_heap_new w _)
  have hold : ∀ b, b < w.heap.size → W1.heap[b]? = w.heap[b]? := fun b hb => by
    rw [← hW1]; exact (Below.heap_alloc _ _ _ (by simp; omega)).trans (Below.heap_alloc _ _ _ hb)
  have hgrw : Grw w W1 (fun _ => False) := ⟨by rw [← hW1]; rfl, by rw [← hW1]; rfl, by rw [← hW1]; rfl, by omega, fun b hb _ => hold b hb⟩
  have H1 := hs.grow hgrw
  have hlive : ∀ b, Own (hc ++ hf) b → B.O b ∨ B.w.heap.size ≤ b := fun b ⟨e, he, hb⟩ => hs.live e he b hb
  have hltO : ∀ b, Own (hc ++ hf) b → b < w.heap.size := fun b ⟨e, he, hb⟩ => (hs.heap.ent e he).lt b hb
  have hownf : ∀ b, Own hf b → Own (hc ++ hf) b := fun b ⟨e, he, hb⟩ => ⟨e, List.mem_append_right _ he, hb⟩
  have hownc : ∀ b, Own hc b → Own (hc ++ hf) b := fun b ⟨e, he, hb⟩ => ⟨e, List.mem_append_left _ he, hb⟩
  have hsepA := List.pairwise_append.1 hs.heap.sep
  have hBsz := hs.ext.size
  have hC0 : conC (w.heap.size + 1) w.heap.size rec s (fun _ => I []) 0 (conOb (w.heap.size + 1) w.heap.size (rec .ready none) s hf) :=
    ⟨hf, hI, hsepA.2.1, fun h => by have := hltO _ (hownf _ h); omega, fun h => by have := hltO _ (hownf _ h); omega, rfl⟩
  have hcall := it w.heap.size (w.heap.size + 1) rec
    (fun pre y hk o ho => by
      rw [hrec] at ho ⊢
      exact ycall_round (I := nx (I pre) (I (pre ++ [y]))) (X := fun _ => X (pre ++ [y])) (k := 0) (by omega) hs.size (hes pre y hk) (fun p hp => blt_lt (List.all_eq_true.1 hpn p hp)) (fun h' hI' => hround _ pre y h' hk hI') ho) _ hC0
  have hrel : HRel W1 S (.ob (conOb (w.heap.size + 1) w.heap.size (rec .ready none) s hf) :: hc) := by
    refine ⟨fun e he => ?_, fun e he g hg hS => ?_, List.pairwise_cons.2 ⟨fun e he g hg hg' => ?_, hsepA.1⟩⟩
    · rcases List.mem_cons.1 he with rfl | he
      · exact ⟨fun e he => H1.heap.ent e (List.mem_append_right _ he), by rw [hrec]; exact H1.slots, hL1, hK1⟩
      · exact H1.heap.ent e (List.mem_append_left _ he)
    · rcases List.mem_cons.1 he with rfl | he
      · rcases hg with ⟨e, he, hg⟩ | rfl | rfl
        · exact hs.heap.off e (List.mem_append_right _ he) g hg hS
        · have := hs.lt _ hS; omega
        · have := hs.lt _ hS; omega
      · exact hs.heap.off e (List.mem_append_left _ he) g hg hS
    · rcases hg with ⟨e', he', hg⟩ | rfl | rfl
      · exact hsepA.2.2 e he e' he' g hg' hg
      · have := hltO _ (hownc _ ⟨e, he, hg'⟩); omega
      · have := hltO _ (hownc _ ⟨e, he, hg'⟩); omega
  refine ⟨w.heap.size + 1, [markD w.heap.size], W1, { target := .fn (.func f) us.toArray, args := vs.toArray ++ #[.func (.yield (w.heap.size + 1)) #[] #[]] }, W1, f, (vs ++ [Value.func (.yield (w.heap.size + 1)) #[] #[]] ++ us).toArray, W1, ?_, ?_, fun _ _ => trivial, ?_, fun h => (by cases h), ?_⟩
  · rw [← hW1, hrec]; exact run_enterLoop_outer _ _ _ _ _
  · simp only [resolve, hev]
    simp [go_sem]
  · simp [invoke, T.callFunc_at hfn]
  refine callsIn_wide.2 ((hcall W1 S _ H1.lt hrel (((hvs.mono (fun _ h => h) (fun b hb => hold b (hs.lt b hb))).append (.cons (.v _) .nil)).append (hus.mono (fun _ h => h) (fun b hb => hold b (hs.lt b hb))))).mono ?_)
  rintro e w' ⟨v, S', r, h', rfl, ⟨o', rfl, hq⟩, hvr, E, hlt', hr', hl'⟩
  have hO0 : ∀ b, Own (.ob (conOb (w.heap.size + 1) w.heap.size (rec .ready none) s hf) :: hc) b → Own (hc ++ hf) b ∨ b = w.heap.size + 1 ∨ b = w.heap.size := fun b ⟨e, he, hb⟩ => by
    rcases List.mem_cons.1 he with rfl | he
    · rcases hb with hb | hb
      · exact .inl (hownf b hb)
      · exact .inr hb
    · exact .inl (hownc b ⟨e, he, hb⟩)
  have hkeepw : ∀ b, b < w.heap.size → ¬ Own (hc ++ hf) b → w'.heap[b]? = w.heap[b]? := fun b hb hn => by
    rw [E.keep b (by show b < W1.heap.size; omega) (fun h => by rcases hO0 b h with h | h | h; exact hn h; omega; omega)]
    exact hold b hb
  have hnewS : ∀ b, S' b → S b ∨ w.heap.size ≤ b ∨ Own (hc ++ hf) b := fun b hb => by
    rcases E.new b hb with h | h | h
    · exact .inl h
    · have : W1.heap.size ≤ b := h
      exact .inr (.inl (by omega))
    · rcases hO0 b h with h | h | h
      · exact .inr (.inr h)
      · exact .inr (.inl (by omega))
      · exact .inr (.inl (by omega))
  have hSk : ∀ b, S b → w'.heap[b]? = w.heap[b]? := fun b hb => hkeepw b (hs.lt b hb) (fun ⟨e, he, h⟩ => hs.heap.off e he b h hb)
  have fin : ∀ (st : LoopState) (pe : Option Code) (h4 : List Ent), st ≠ .busy → h4.Pairwise Apart → ¬ Own h4 (w.heap.size + 1) → ¬ Own h4 w.heap.size → o' = conOb (w.heap.size + 1) w.heap.size (rec st pe) s h4 →
      ∃ w4, (Instr.endLoop (w.heap.size + 1)).run P w' = .ok pe w4 ∧ Sim B N w4 S' s h4 { a with defers := [markD w.heap.size] ++ a.defers } := fun st pe h4 hst hap hnL hnD ho => by
    subst ho
    obtain ⟨g1, g2, g3, g4⟩ := hr'.ent _ List.mem_cons_self
    have goff : ∀ g, (Own h4 g ∨ g = w.heap.size + 1 ∨ g = w.heap.size) → ¬ S' g := hr'.off _ List.mem_cons_self
    have hlv : ∀ g, Own h4 g → Own (hc ++ hf) g ∨ w.heap.size ≤ g := fun g hg => by
      rcases hl' _ List.mem_cons_self g (.inl hg) with h | h
      · rcases hO0 g h with h | h | h
        · exact .inl h
        · exact .inr (by omega)
        · exact .inr (by omega)
      · exact .inr (by omega)
    have hrun := run_endLoop (P := P) g3 (by rw [hrec]; exact hst)
    rw [show (rec st pe).pending = pe by rw [hrec]] at hrun
    obtain ⟨w4, ⟨ob, hw4⟩, hrun⟩ : ∃ w4, (∃ ob, w'.putObj (w.heap.size + 1) ob = w4) ∧ (Instr.endLoop (w.heap.size + 1)).run P w' = .ok pe w4 := ⟨_, ⟨_, rfl⟩, hrun⟩
    refine ⟨w4, hrun, ?_⟩
    have hoth : ∀ b, b ≠ w.heap.size + 1 → w4.heap[b]? = w'.heap[b]? := fun b hb => by rw [← hw4]; exact World.putObj_heap_other hb
    have hsz4 : w4.heap.size = w'.heap.size := by rw [← hw4]; simp
    have hsz' : W1.heap.size ≤ w'.heap.size := E.size
    refine ⟨⟨?_, ?_, ?_, by omega, fun b hb hO => ?_, fun b hb => E.stab b (hs.ext.stab b hb), fun b hb => ?_⟩, ?_, hs.size, hs.slots.mono E.stab (fun b hb => ?_), fun b hb => by rw [hsz4]; exact hlt' b hb, ⟨fun e he => ?_, fun e he g hg => goff g (.inl ⟨e, he, hg⟩), hap⟩, fun e he g hg => ?_, hs.off⟩
    · rw [← hw4]; show w'.os = _; rw [E.os]; show W1.os = _; rw [hgrw.os]; exact hs.ext.os
    · rw [← hw4]; show w'.tape = _; rw [E.tape]; show W1.tape = _; rw [hgrw.tape]; exact hs.ext.tape
    · rw [← hw4]; show w'.output = _; rw [E.output]; show W1.output = _; rw [hgrw.output]; exact hs.ext.output
    · have hb' : b < w.heap.size := Nat.lt_of_lt_of_le hb hBsz
      rw [hoth b (by omega), hkeepw b hb' (fun h => by rcases hlive b h with h | h; exact hO h; omega)]
      exact hs.ext.keep b hb hO
    · rcases hnewS b hb with h | h | h
      · exact hs.ext.new b h
      · exact .inr (.inl (by omega))
      · rcases hlive b h with h | h
        · exact .inr (.inr h)
        · exact .inr (.inl h)
    · obtain ⟨rs, e, hnd, hrs⟩ := hs.defs
      refine ⟨w.heap.size :: rs, by simp [e], List.nodup_cons.2 ⟨fun hm => ?_, hnd⟩, fun q hq => ?_⟩
      · have := (Array.getElem?_eq_some_iff.1 (hrs _ hm).1).1
        omega
      · rcases List.mem_cons.1 hq with rfl | hq
        · exact ⟨by rw [hoth _ (by omega)]; exact g4, goff _ (.inr (.inr rfl)), .inr hBsz, fun e he hb => hnD ⟨e, he, hb⟩⟩
        · obtain ⟨q1, q2, q3, q4⟩ := hrs q hq
          have hqlt := (Array.getElem?_eq_some_iff.1 q1).1
          have hqO : ¬ Own (hc ++ hf) q := fun ⟨e, he, hb⟩ => q4 e he hb
          refine ⟨by rw [hoth q (by omega), hkeepw q hqlt hqO]; exact q1, fun hS => ?_, q3, fun e he hb => ?_⟩
          · rcases hnewS q hS with h | h | h
            · exact q2 h
            · omega
            · exact hqO h
          · rcases hlv q ⟨e, he, hb⟩ with h | h
            · exact hqO h
            · omega
    · rw [hoth b (by have := hs.lt b hb; omega)]; exact hSk b hb
    · exact (g1 e he).mono (by rw [← hw4]; rfl) (by rw [← hw4]; rfl) (by rw [← hw4]; rfl) (by omega) (fun _ h => h) (fun b hb => hoth b (fun e0 => goff _ (.inr (.inl e0)) hb)) (fun g hg => hoth g (fun e0 => hnL ⟨e, he, e0 ▸ hg⟩))
    · rcases hlv g ⟨e, he, hg⟩ with h | h
      · exact hlive g h
      · exact .inr (by omega)
  rcases hq with ⟨k, hk, h4, hI4, f1, f2, f3, ho'⟩ | ⟨k, hk, h4, e, c, hX, hj, f1, f2, f3, ho'⟩
  · obtain ⟨w4, hrun, hsim⟩ := fin .ready none h4 (by simp) f1 f2 f3 ho'
    exact ⟨none, w4, hrun, S', s, h4, hdone k h4 hk hI4, hsim⟩
  · obtain ⟨w4, hrun, hsim⟩ := fin .done (some c) h4 (by simp) f1 f2 f3 ho'
    refine ⟨some c, w4, hrun, ?_⟩
    cases e with
    | ret => simp [jumpOf] at hj; subst hj; exact wpIn_ret ⟨S', s, h4, hret k h4 hk hX, hsim⟩
    | exit id => simp [jumpOf] at hj; subst hj; exact wpIn_exit ⟨S', s, h4, hexit k id h4 hk hX, hsim⟩
    | _ => simp [jumpOf] at hj
theorem awp_rangeFuncP (T : TT P) {g : Operand} {ps : Array Tmp} {assign body : Code} {yc : AV} {f : Nat} {fs cs : List AV} {hc hf : List Ent} {Pre Full : List (List AV) → Prop} (I : List (List AV) → List Ent → Prop) (X : List (List AV) → Exit → List Ent → Prop)
    (hcal : evA s g = some yc) (hcl : Callee yc f fs cs) (hfn : T.fns.any (Nat.beq f) = true) (it : ISpecP P f (fun y => fs ++ [y] ++ cs) hc Pre Full) (hsub : SubH (hc ++ hf) h) (hI : I [] hf)
    (hes : ∀ pre y, Pre (pre ++ [y]) → y.length = ps.size) (hpn : ps.toList.all (fun p => Nat.blt p N) = true)
    (hround : ∀ l pre y h', Pre (pre ++ [y]) → I pre h' → AWP P N (some l) assign (fun e s1 h1 => e = .normal ∧ AWP P N (some l) body (stepQ (nx (I pre) (I (pre ++ [y]))) (fun _ => X (pre ++ [y])) 0) s1 h1) (paramsS ps.toList y s) h')
    (hdone : ∀ L h', Full L → I L h' → Q .normal s h') (hret : ∀ L h', Pre L → X L .ret h' → Q .ret s h') (hexit : ∀ L id h', Pre L → X L (.exit id) h' → Q (.exit id) s h') : AWP P N none (.rangeFunc g ps assign body) Q s h :=
  awp_rangeFuncC T I X hcal hcl hfn (fun D L rec hy o ho => it L (fun pre o => conC L D rec s (fun _ => I pre) 0 o) (fun L' o => conX L D rec s (fun _ => X L') 0 o) hy o ho) hsub hI hes hpn hround hdone hret hexit
end
end Go.Tl
