/- The statement that ranges over a function, over plain trees. -/
import Derived.Test.YtilhflfbbfeakaaTlc
namespace Go.Tl
open Go Go.RowKit
set_option linter.unusedVariables false
set_option linter.unusedSimpArgs false

section
variable {P : Program} {N : Nat} {s : Slots} {h : List Ent} {Q : Exit → Slots → List Ent → Prop}
theorem awp_rangeFunc (T : TT P) {g : Operand} {ps : Array Tmp} {assign body : Code} {yc : AV} {f : Nat} {fs cs : List AV} {hc hf : List Ent} {m : Nat} {es : Nat → List AV} (I : Nat → List Ent → Prop) (X : Nat → Exit → List Ent → Prop)
    (hcal : evA s g = some yc) (hcl : Callee yc f fs cs) (hfn : T.fns.any (Nat.beq f) = true) (it : ISpec P f (fun y => fs ++ [y] ++ cs) hc m es) (hsub : SubH (hc ++ hf) h) (hI : I 0 hf)
    (hes : ∀ k, k < m → (es k).length = ps.size) (hpn : ps.toList.all (fun p => Nat.blt p N) = true)
    (hround : ∀ l k h', k < m → I k h' → AWP P N (some l) assign (fun e s1 h1 => e = .normal ∧ AWP P N (some l) body (stepQ I X k) s1 h1) (paramsS ps.toList (es k) s) h')
    (hdone : ∀ h', I m h' → Q .normal s h') (hret : ∀ k h', k < m → X k .ret h' → Q .ret s h') (hexit : ∀ k id h', k < m → X k (.exit id) h' → Q (.exit id) s h') : AWP P N none (.rangeFunc g ps assign body) Q s h := fun B w S a hs0 => by
  have hs := hs0.sub hsub
  refine wpIn_rangeFunc (F := FR none) ?_
  intro fn _
  obtain ⟨vs, us, hev, hvs, hus⟩ := hcl w S _ (hs.slots.eval hcal)
  obtain ⟨rec, hrec⟩ : ∃ rec : LoopState → Option Code → Loop, rec = fun st pe => { state := st, pending := pe, fn := fn, tmps := a.tmps, params := ps, assign := assign, body := body, defers := w.heap.size } := ⟨_, rfl⟩
  obtain ⟨W1, hW1⟩ : ∃ W1, (w.alloc (.deferred (some []))).alloc (.loop (rec .ready none)) = W1 := ⟨_, rfl⟩
  have hsz : W1.heap.size = w.heap.size + 2 := by rw [← hW1]; simp
  have hL1 : W1.heap[w.heap.size + 1]? = some (.loop (rec .ready none)) := by
    rw [← hW1]; have := World.alloc_heap_new (w.alloc (.deferred (some []))) (.loop (rec .ready none)); rwa [World.size_alloc] at this
  have hK1 : W1.heap[w.heap.size]? = some (.deferred (some [])) := by
    rw [← hW1]; exact (Below.heap_alloc _ _ _ (by simp)).trans (World.alloc_heap_new w _)
  have hold : ∀ b, b < w.heap.size → W1.heap[b]? = w.heap[b]? := fun b hb => by
    rw [← hW1]; exact (Below.heap_alloc _ _ _ (by simp; omega)).trans (Below.heap_alloc _ _ _ hb)
  have hgrw : Grw w W1 (fun _ => False) := ⟨by rw [← hW1]; rfl, by rw [← hW1]; rfl, by rw [← hW1]; rfl, by omega, fun b hb _ => hold b hb⟩
  have H1 := hs.grow hgrw
  have hlive : ∀ b, Own (hc ++ hf) b → B.O b ∨ B.w.heap.size ≤ b := fun b ⟨e, he, hb⟩ => hs.live e he b hb
  have hltO : ∀ b, Own (hc ++ hf) b → b < w.heap.size := fun b ⟨e, he, hb⟩ => (hs.heap.ent e he).lt b hb
  have hownf : ∀ b, Own hf b → Own (hc ++ hf) b := fun b ⟨e, he, hb⟩ => ⟨e, List.mem_append_right _ he, hb⟩
  have hownc : ∀ b, Own hc b → Own (hc ++ hf) b := fun b ⟨e, he, hb⟩ => ⟨e, List.mem_append_left _ he, hb⟩
  have hsepA := List.pairwise_append.1 hs.heap.sep
  have hBsz := hs.ext.size
  have hC0 : conC (w.heap.size + 1) w.heap.size rec s I 0 (conOb (w.heap.size + 1) w.heap.size (rec .ready none) s hf) :=
    ⟨hf, hI, hsepA.2.1, fun h => by have := hltO _ (hownf _ h); omega, fun h => by have := hltO _ (hownf _ h); omega, rfl⟩
  have hcall := it (w.heap.size + 1) (conC (w.heap.size + 1) w.heap.size rec s I) (conX (w.heap.size + 1) w.heap.size rec s X)
    (fun k hk o ho => by
      rw [hrec] at ho ⊢
      exact ycall_round (by omega) hs.size (hes k hk) (fun p hp => blt_lt (List.all_eq_true.1 hpn p hp)) (fun h' hI' => hround _ k h' hk hI') ho) _ hC0
  have hrel : HRel W1 S (.ob (conOb (w.heap.size + 1) w.heap.size (rec .ready none) s hf) :: hc) := by
    refine ⟨fun e he => ?_, fun e he g hg hS => ?_, List.pairwise_cons.2 ⟨fun e he g hg hg' => ?_, hsepA.1⟩⟩
    · rcases List.mem_cons.1 he with rfl | he
      · exact ⟨fun e he => H1.heap.ent e (List.mem_append_right _ he), by rw [hrec]; exact H1.slots, hL1, hK1⟩
      · exact H1.heap.ent e (List.mem_append_left _ he)
    · rcases List.mem_cons.1 he with rfl | he
      · rcases hg with ⟨e, he, hg⟩ | rfl | rfl
        · exact hs.heap.off e (List.mem_append_right _ he) g hg hS
        · have := hs.lt _ hS; omega
        · have := hs.lt _ hS; omega
      · exact hs.heap.off e (List.mem_append_left _ he) g hg hS
    · rcases hg with ⟨e', he', hg⟩ | rfl | rfl
      · exact hsepA.2.2 e he e' he' g hg' hg
      · have := hltO _ (hownc _ ⟨e, he, hg'⟩); omega
      · have := hltO _ (hownc _ ⟨e, he, hg'⟩); omega
  refine ⟨w.heap.size + 1, [markD w.heap.size], W1, { target := .fn (.func f) us.toArray, args := vs.toArray ++ #[.func (.yield (w.heap.size + 1)) #[] #[]] }, W1, f, (vs ++ [Value.func (.yield (w.heap.size + 1)) #[] #[]] ++ us).toArray, W1, ?_, ?_, fun _ _ => trivial, ?_, fun h => (by cases h), ?_⟩
  · rw [← hW1, hrec]; exact run_enterLoop_outer _ _ _ _ _
  · simp only [resolve, hev]
    simp [go_sem]
  · simp [invoke, T.callFunc_at hfn]
  refine callsIn_wide.2 ((hcall W1 S _ H1.lt hrel (((hvs.mono (fun _ h => h) (fun b hb => hold b (hs.lt b hb))).append (.cons (.v _) .nil)).append (hus.mono (fun _ h => h) (fun b hb => hold b (hs.lt b hb))))).mono ?_)
  rintro e w' ⟨v, S', r, h', rfl, ⟨o', rfl, hq⟩, hvr, E, hlt', hr', hl'⟩
  have hO0 : ∀ b, Own (.ob (conOb (w.heap.size + 1) w.heap.size (rec .ready none) s hf) :: hc) b → Own (hc ++ hf) b ∨ b = w.heap.size + 1 ∨ b = w.heap.size := fun b ⟨e, he, hb⟩ => by
    rcases List.mem_cons.1 he with rfl | he
    · rcases hb with hb | hb
      · exact .inl (hownf b hb)
      · exact .inr hb
    · exact .inl (hownc b ⟨e, he, hb⟩)
  have hkeepw : ∀ b, b < w.heap.size → ¬ Own (hc ++ hf) b → w'.heap[b]? = w.heap[b]? := fun b hb hn => by
    rw [E.keep b (by show b < W1.heap.size; omega) (fun h => by rcases hO0 b h with h | h | h; exact hn h; omega; omega)]
    exact hold b hb
  have hnewS : ∀ b, S' b → S b ∨ w.heap.size ≤ b ∨ Own (hc ++ hf) b := fun b hb => by
    rcases E.new b hb with h | h | h
    · exact .inl h
    · have : W1.heap.size ≤ b := h
      exact .inr (.inl (by omega))
    · rcases hO0 b h with h | h | h
      · exact .inr (.inr h)
      · exact .inr (.inl (by omega))
      · exact .inr (.inl (by omega))
  have hSk : ∀ b, S b → w'.heap[b]? = w.heap[b]? := fun b hb => hkeepw b (hs.lt b hb) (fun ⟨e, he, h⟩ => hs.heap.off e he b h hb)
  have fin : ∀ (st : LoopState) (pe : Option Code) (h4 : List Ent), st ≠ .busy → h4.Pairwise Apart → ¬ Own h4 (w.heap.size + 1) → ¬ Own h4 w.heap.size → o' = conOb (w.heap.size + 1) w.heap.size (rec st pe) s h4 →
      ∃ w4, (Instr.endLoop (w.heap.size + 1)).run P w' = .ok pe w4 ∧ Sim B N w4 S' s h4 { a with defers := [markD w.heap.size] ++ a.defers } := fun st pe h4 hst hap hnL hnD ho => by
    subst ho
    obtain ⟨g1, g2, g3, g4⟩ := hr'.ent _ List.mem_cons_self
    have goff : ∀ g, (Own h4 g ∨ g = w.heap.size + 1 ∨ g = w.heap.size) → ¬ S' g := hr'.off _ List.mem_cons_self
    have hlv : ∀ g, Own h4 g → Own (hc ++ hf) g ∨ w.heap.size ≤ g := fun g hg => by
      rcases hl' _ List.mem_cons_self g (.inl hg) with h | h
      · rcases hO0 g h with h | h | h
        · exact .inl h
        · exact .inr (by omega)
        · exact .inr (by omega)
      · exact .inr (by omega)
    have hrun := run_endLoop (P := P) g3 (by rw [hrec]; exact hst)
    rw [show (rec st pe).pending = pe by rw [hrec]] at hrun
    obtain ⟨w4, ⟨ob, hw4⟩, hrun⟩ : ∃ w4, (∃ ob, w'.putObj (w.heap.size + 1) ob = w4) ∧ (Instr.endLoop (w.heap.size + 1)).run P w' = .ok pe w4 := ⟨_, ⟨_, rfl⟩, hrun⟩
    refine ⟨w4, hrun, ?_⟩
    have hoth : ∀ b, b ≠ w.heap.size + 1 → w4.heap[b]? = w'.heap[b]? := fun b hb => by rw [← hw4]; exact World.putObj_heap_other hb
    have hsz4 : w4.heap.size = w'.heap.size := by rw [← hw4]; simp
    have hsz' : W1.heap.size ≤ w'.heap.size := E.size
    refine ⟨⟨?_, ?_, ?_, by omega, fun b hb hO => ?_, fun b hb => E.stab b (hs.ext.stab b hb), fun b hb => ?_⟩, ?_, hs.size, hs.slots.mono E.stab (fun b hb => ?_), fun b hb => by rw [hsz4]; exact hlt' b hb, ⟨fun e he => ?_, fun e he g hg => goff g (.inl ⟨e, he, hg⟩), hap⟩, fun e he g hg => ?_, hs.off⟩
    · rw [← hw4]; show w'.os = _; rw [E.os]; show W1.os = _; rw [hgrw.os]; exact hs.ext.os
    · rw [← hw4]; show w'.tape = _; rw [E.tape]; show W1.tape = _; rw [hgrw.tape]; exact hs.ext.tape
    · rw [← hw4]; show w'.output = _; rw [E.output]; show W1.output = _; rw [hgrw.output]; exact hs.ext.output
    · have hb' : b < w.heap.size := Nat.lt_of_lt_of_le hb hBsz
      rw [hoth b (by omega), hkeepw b hb' (fun h => by rcases hlive b h with h | h; exact hO h; omega)]
      exact hs.ext.keep b hb hO
    · rcases hnewS b hb with h | h | h
      · exact hs.ext.new b h
      · exact .inr (.inl (by omega))
      · rcases hlive b h with h | h
        · exact .inr (.inr h)
        · exact .inr (.inl h)
    · obtain ⟨rs, e, hnd, hrs⟩ := hs.defs
      refine ⟨w.heap.size :: rs, by simp [e], List.nodup_cons.2 ⟨fun hm => ?_, hnd⟩, fun q hq => ?_⟩
      · have := (Array.getElem?_eq_some_iff.1 (hrs _ hm).1).1
        omega
      · rcases List.mem_cons.1 hq with rfl | hq
        · exact ⟨by rw [hoth _ (by omega)]; exact g4, goff _ (.inr (.inr rfl)), .inr hBsz, fun e he hb => hnD ⟨e, he, hb⟩⟩
        · obtain ⟨q1, q2, q3, q4⟩ := hrs q hq
          have hqlt := (Array.getElem?_eq_some_iff.1 q1).1
          have hqO : ¬ Own (hc ++ hf) q := fun ⟨e, he, hb⟩ => q4 e he hb
          refine ⟨by rw [hoth q (by omega), hkeepw q hqlt hqO]; exact q1, fun hS => ?_, q3, fun e he hb => ?_⟩
          · rcases hnewS q hS with h | h | h
            · exact q2 h
            · omega
            · exact hqO h
          · rcases hlv q ⟨e, he, hb⟩ with h | h
            · exact hqO h
            · omega
    · rw [hoth b (by have := hs.lt b hb; omega)]; exact hSk b hb
    · exact (g1 e he).mono (by rw [← hw4]; rfl) (by rw [← hw4]; rfl) (by rw [← hw4]; rfl) (by omega) (fun _ h => h) (fun b hb => hoth b (fun e0 => goff _ (.inr (.inl e0)) hb)) (fun g hg => hoth g (fun e0 => hnL ⟨e, he, e0 ▸ hg⟩))
    · rcases hlv g ⟨e, he, hg⟩ with h | h
      · exact hlive g h
      · exact .inr (by omega)
  rcases hq with ⟨h4, hI4, f1, f2, f3, ho'⟩ | ⟨k, hk, h4, e, c, hX, hj, f1, f2, f3, ho'⟩
  · obtain ⟨w4, hrun, hsim⟩ := fin .ready none h4 (by simp) f1 f2 f3 ho'
    exact ⟨none, w4, hrun, S', s, h4, hdone h4 hI4, hsim⟩
  · obtain ⟨w4, hrun, hsim⟩ := fin .done (some c) h4 (by simp) f1 f2 f3 ho'
    refine ⟨some c, w4, hrun, ?_⟩
    cases e with
    | ret => simp [jumpOf] at hj; subst hj; exact wpIn_ret ⟨S', s, h4, hret k h4 hk hX, hsim⟩
    | exit id => simp [jumpOf] at hj; subst hj; exact wpIn_exit ⟨S', s, h4, hexit k id h4 hk hX, hsim⟩
    | _ => simp [jumpOf] at hj
end
end Go.Tl
