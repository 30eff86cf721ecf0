/- Variables seen as lists: a slice of an array variable is a list; entries with wider trees. -/
import Derived.Test.YtlpknbneilgjkaaGOb
import Derived.Test.YtlpknbneilgjkaaGTy
namespace Go.Tl
open Go Go.RowKit
set_option linter.unusedVariables false
set_option linter.unusedSimpArgs false
theorem ghost_cl_le {s : Slots} {h h2 : List Ent} {g : Nat} {T : TypeId} {cs cs' : List AV} (hr : Repl h (.cl g T cs) (.cl g T cs') h2) (hle : AVsLe cs cs') : Ghost s h s h2 := fun B N w S a hs => by
  have hm : Ent.cl g T cs ∈ h := by obtain ⟨x, y, rfl, _⟩ := hr.split; simp
  obtain ⟨vs, hvs, hrel⟩ := hs.heap.ent _ hm
  exact ⟨_, hs.repl hr .refl ⟨vs, hvs, hle.rels hrel⟩ (fun g' h' => .inl h'), fun _ h => h⟩
theorem cl_tree {w : World} {S : Nat → Prop} {g n c : Nat} {T : TypeId} {cs : List AV} {f : Nat → List Tr} (he : ERel w S (.cl g T cs)) (hc : n ≤ c) (hf : ∀ k, k < n → ∃ x, f k = [x] ∧ cs[k]? = some (AV.ofTr x)) :
    TRel w (fun b => S b ∨ g = b) (.sl true 1 n f) (.slice (some ⟨g, 0, none⟩) n c) := by
  obtain ⟨vs, hg, hrel⟩ := he
  have hv : ∀ k, k < n → ∃ x u, f k = [x] ∧ vs[k]? = some u ∧ VRel w S (AV.ofTr x) u := fun k hk => by
    obtain ⟨x, h1, h2⟩ := hf k hk
    obtain ⟨u, h3, h4⟩ := hrel.get h2
    exact ⟨x, u, h1, h3, h4⟩
  refine .sl (fun k j => vs.getD k undef) (fun _ => hc) (fun k hk => ?_) (fun k hk => ⟨g, 0, rfl, .inr rfl, fun j hj => ?_⟩) (fun k j x hk hx => ?_)
  · obtain ⟨x, u, h1, _⟩ := hv k hk
    rw [h1]; rfl
  · obtain ⟨x, u, h1, h2, _⟩ := hv k hk
    obtain rfl : j = 0 := by omega
    have e : 0 + k * 1 + 0 = k := by omega
    simp [World.cell?, hg, List.getD_eq_getElem?_getD, h2]
  · obtain ⟨y, u, h1, h2, h3⟩ := hv k hk
    rw [h1] at hx
    match j, hx with
    | 0, hx =>
      simp at hx
      subst hx
      rw [List.getD_eq_getElem?_getD, h2]
      exact (ofTr_inv h3).mono (fun _ h => .inl h) (fun _ _ => rfl)
theorem ghost_freezeC {s : Slots} {h h1 : List Ent} {g n c d : Nat} {T : TypeId} {cs : List AV} (f : Nat → List Tr) (hp : Pick h (.cl g T cs) h1) (hd : look s d = some (.v (.slice (some ⟨g, 0, none⟩) n c))) (hc : n ≤ c) (hf : ∀ k, k < n → ∃ x, f k = [x] ∧ cs[k]? = some (AV.ofTr x)) :
    Ghost s h ((d, .t (.sl true 1 n f)) :: s) h1 := fun B N w S a hs => by
  have hmem : Ent.cl g T cs ∈ h := by obtain ⟨x, y, rfl, _⟩ := hp.split; simp
  have ht := cl_tree (hs.heap.ent _ hmem) hc hf
  have hs' := hs.freeze hp
  refine ⟨_, ⟨hs'.ext, hs'.defs, hs'.size, fun e x hx => ?_, hs'.lt, hs'.heap, hs'.live, hs'.off⟩, fun _ h => .inl h⟩
  simp only [look] at hx
  cases hb : Nat.beq d e with
  | true =>
    rw [hb] at hx
    simp at hx
    subst hx
    obtain ⟨u, hu, hr⟩ := hs.slots d _ hd
    rw [← Nat.eq_of_beq_eq_true hb]
    rw [hr.lit_inv] at hu
    exact ⟨_, hu, .t ht⟩
  | false =>
    rw [hb] at hx
    exact hs'.slots e x hx
theorem acall_borrowC {P : Program} {fn g n c : Nat} {T : TypeId} {cs : List AV} {f : Nat → List Tr} {u : Value} (C : PCall P fn [.t (.sl true 1 n f)] (fun r => r = .v u)) (hc : n ≤ c) (hf : ∀ k, k < n → ∃ x, f k = [x] ∧ cs[k]? = some (AV.ofTr x)) :
    ACall P fn [.v (.slice (some ⟨g, 0, none⟩) n c)] [.cl g T cs] (fun r h' => r = .v u ∧ h' = [.cl g T cs]) := fun w S vs h1 h2 h3 => by
  have he := h2.ent _ List.mem_cons_self
  have ht := cl_tree he hc hf
  have hown : g < w.heap.size := he.lt g rfl
  have hlt' : ∀ b, (S b ∨ g = b) → b < w.heap.size := fun b hb => by
    rcases hb with hb | hb
    · exact h1 b hb
    · omega
  have hvs : vs = [.slice (some ⟨g, 0, none⟩) n c] := VRels.lits_inv (xs := [.slice (some ⟨g, 0, none⟩) n c]) h3
  subst hvs
  refine (C w _ [_] hlt' HRel.nil (.cons (.t ht) .nil)).mono fun e w' ⟨v', S'', r, h', e1, hq, hvr, E', hlt, hr, hl⟩ => ?_
  obtain ⟨rfl, rfl⟩ := hq
  have hk : ∀ b, b < w.heap.size → w'.heap[b]? = w.heap[b]? := fun b hb => E'.keep b hb (fun ⟨e, he, _⟩ => by cases he)
  exact ⟨_, S, _, _, e1, ⟨rfl, rfl⟩, by rw [hvr.lit_inv]; exact .v _, ⟨E'.os, E'.tape, E'.output, E'.size, fun b hb _ => hk b hb, fun _ h => h, fun _ h => .inl h⟩, fun b hb => Nat.lt_of_lt_of_le (h1 b hb) E'.size,
    h2.same h1 (fun _ h => h) (fun _ h => .inl h) ⟨E'.os, E'.tape, E'.output, E'.size, fun b hb _ => hk b hb⟩, fun e he g hg => .inl ⟨e, he, hg⟩⟩
end Go.Tl
