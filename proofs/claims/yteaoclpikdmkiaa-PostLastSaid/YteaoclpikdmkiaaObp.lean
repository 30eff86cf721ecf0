/- Entries put together into one, and taken apart again: a function that is handed over reads what it was made over, and nobody else looks at it. -/
import Derived.Test.YteaoclpikdmkiaaTL
namespace Go.Tl
open Go Go.RowKit
set_option linter.unusedVariables false
set_option linter.unusedSimpArgs false
/-- entries as one -/
def packOb (hc : List Ent) : Ob where
  fp := Own hc
  Φ := fun w S => (∀ e ∈ hc, ERel w S e) ∧ hc.Pairwise Apart
  lt := fun {w S} H g ⟨e, he, hb⟩ => (H.1 e he).lt g hb
  keep := fun {w w' S S'} H h1 h2 h3 h4 hS hw hg => ⟨fun e he => (H.1 e he).mono h1 h2 h3 h4 hS hw (fun g hb => hg g ⟨e, he, hb⟩), H.2⟩
theorem pack_hrel {w : World} {S : Nat → Prop} {hc h : List Ent} (H : HRel w S (hc ++ h)) : HRel w S (.ob (packOb hc) :: h) := by
  have hs := List.pairwise_append.1 H.sep
  refine ⟨fun e he => ?_, fun e he g hg => ?_, List.pairwise_cons.2 ⟨fun e he g hg hg' => ?_, hs.2.1⟩⟩
  · rcases List.mem_cons.1 he with rfl | he
    · exact ⟨fun e he => H.ent e (List.mem_append_left _ he), hs.1⟩
    · exact H.ent e (List.mem_append_right _ he)
  · rcases List.mem_cons.1 he with rfl | he
    · obtain ⟨e, he, hg⟩ := hg
      exact H.off e (List.mem_append_left _ he) g hg
    · exact H.off e (List.mem_append_right _ he) g hg
  · obtain ⟨e', he', hg⟩ := hg
    exact hs.2.2 e' he' e he g hg hg'
theorem unpack_hrel {w : World} {S : Nat → Prop} {hc h : List Ent} (H : HRel w S (.ob (packOb hc) :: h)) : HRel w S (hc ++ h) := by
  have hs := List.pairwise_cons.1 H.sep
  have ho := H.ent _ List.mem_cons_self
  refine ⟨fun e he => ?_, fun e he g hg => ?_, List.pairwise_append.2 ⟨ho.2, hs.2, fun e he e' he' g hg hg' => ?_⟩⟩
  · rcases List.mem_append.1 he with he | he
    · exact ho.1 e he
    · exact H.ent e (List.mem_cons_of_mem _ he)
  · rcases List.mem_append.1 he with he | he
    · exact H.off _ List.mem_cons_self g ⟨e, he, hg⟩
    · exact H.off e (List.mem_cons_of_mem _ he) g hg
  · exact hs.1 e' he' g ⟨e, he, hg⟩ hg'
theorem own_pack {hc h : List Ent} {g : Nat} : Own (.ob (packOb hc) :: h) g ↔ Own (hc ++ h) g := by
  constructor
  · rintro ⟨e, he, hg⟩
    rcases List.mem_cons.1 he with rfl | he
    · obtain ⟨e, he, hg⟩ := hg
      exact ⟨e, List.mem_append_left _ he, hg⟩
    · exact ⟨e, List.mem_append_right _ he, hg⟩
  · rintro ⟨e, he, hg⟩
    rcases List.mem_append.1 he with he | he
    · exact ⟨_, List.mem_cons_self, ⟨e, he, hg⟩⟩
    · exact ⟨e, List.mem_cons_of_mem _ he, hg⟩
theorem ghost_pack {s : Slots} (hc h : List Ent) : Ghost s (hc ++ h) s (.ob (packOb hc) :: h) := fun B N w S a hs =>
  ⟨S, ⟨hs.ext, hs.defs.imp fun rs ⟨e, hn, hr⟩ => ⟨e, hn, fun q hq => ⟨(hr q hq).1, (hr q hq).2.1, (hr q hq).2.2.1, fun e' he' hb => by
      obtain ⟨e2, he2, hb2⟩ := own_pack.1 ⟨e', he', hb⟩
      exact (hr q hq).2.2.2 e2 he2 hb2⟩⟩, hs.size, hs.slots, hs.lt, pack_hrel hs.heap, fun e he g hg => by
      obtain ⟨e2, he2, hb2⟩ := own_pack.1 ⟨e, he, hg⟩
      exact hs.live e2 he2 g hb2, fun b hb ho => hs.off b hb ho⟩, fun _ h => h⟩
theorem ghost_unpack {s : Slots} (hc h : List Ent) : Ghost s (.ob (packOb hc) :: h) s (hc ++ h) := fun B N w S a hs =>
  ⟨S, ⟨hs.ext, hs.defs.imp fun rs ⟨e, hn, hr⟩ => ⟨e, hn, fun q hq => ⟨(hr q hq).1, (hr q hq).2.1, (hr q hq).2.2.1, fun e' he' hb => by
      obtain ⟨e2, he2, hb2⟩ := own_pack.2 ⟨e', he', hb⟩
      exact (hr q hq).2.2.2 e2 he2 hb2⟩⟩, hs.size, hs.slots, hs.lt, unpack_hrel hs.heap, fun e he g hg => by
      obtain ⟨e2, he2, hb2⟩ := own_pack.2 ⟨e, he, hg⟩
      exact hs.live e2 he2 g hb2, fun b hb ho => hs.off b hb ho⟩, fun _ h => h⟩
/-- a call that leaves what it was made over as it was -/
theorem acall_pack {P : Program} {g : Nat} {args : List AV} {hc : List Ent} {R : AV → Prop} (C : ACall P g args hc (fun r h' => R r ∧ h' = hc)) : ACall P g args [.ob (packOb hc)] (fun r h' => R r ∧ h' = [.ob (packOb hc)]) := fun w S vs h1 h2 h3 => by
  have h2' : HRel w S hc := by have := unpack_hrel h2; rwa [List.append_nil] at this
  have hown : ∀ b, Own [.ob (packOb hc)] b ↔ Own hc b := fun b => by have := own_pack (hc := hc) (h := []) (g := b); rwa [List.append_nil] at this
  refine (C w S vs h1 h2' h3).mono fun e w' ⟨v, S', r, h', e1, ⟨hR, eh⟩, hvr, E, hlt, hr, hl⟩ => ?_
  subst eh
  refine ⟨v, S', r, _, e1, ⟨hR, rfl⟩, hvr, ⟨E.os, E.tape, E.output, E.size, fun b hb hn => E.keep b hb (fun ho => hn ((hown b).2 ho)), E.stab, fun b hb => ?_⟩, hlt, ?_, fun e he g hg => ?_⟩
  · rcases E.new b hb with h | h | h
    · exact .inl h
    · exact .inr (.inl h)
    · exact .inr (.inr ((hown b).2 h))
  · exact pack_hrel (w := w') (S := S') (h := []) (by rwa [List.append_nil])
  · obtain ⟨e2, he2, hg2⟩ := (hown g).1 ⟨e, he, hg⟩
    rcases hl e2 he2 g hg2 with h | h
    · exact .inl ((hown g).2 h)
    · exact .inr h
theorem acall_unpack {P : Program} {g : Nat} {args : List AV} {hc : List Ent} {R : AV → Prop} (C : ACall P g args [.ob (packOb hc)] (fun r h' => R r ∧ h' = [.ob (packOb hc)])) : ACall P g args hc (fun r h' => R r ∧ h' = hc) := fun w S vs h1 h2 h3 => by
  have h2' : HRel w S [.ob (packOb hc)] := pack_hrel (h := []) (by rwa [List.append_nil])
  have hown : ∀ b, Own [.ob (packOb hc)] b ↔ Own hc b := fun b => by have := own_pack (hc := hc) (h := []) (g := b); rwa [List.append_nil] at this
  refine (C w S vs h1 h2' h3).mono fun e w' ⟨v, S', r, h', e1, ⟨hR, eh⟩, hvr, E, hlt, hr, hl⟩ => ?_
  subst eh
  refine ⟨v, S', r, _, e1, ⟨hR, rfl⟩, hvr, ⟨E.os, E.tape, E.output, E.size, fun b hb hn => E.keep b hb (fun ho => hn ((hown b).1 ho)), E.stab, fun b hb => ?_⟩, hlt, ?_, fun e he g hg => ?_⟩
  · rcases E.new b hb with h | h | h
    · exact .inl h
    · exact .inr (.inl h)
    · exact .inr (.inr ((hown b).1 h))
  · have := unpack_hrel hr
    rwa [List.append_nil] at this
  · rcases hl _ List.mem_cons_self g ⟨e, he, hg⟩ with h | h
    · exact .inl ((hown g).1 h)
    · exact .inr h
end Go.Tl
