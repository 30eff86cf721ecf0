/- Owned lists that are cut, and lent. -/
import Derived.Test.YteaoclpikdmkiaaDl
import Derived.Test.YteaoclpikdmkiaaNe
import Derived.Test.YteaoclpikdmkiaaTy
namespace Go.Tl
open Go Go.RowKit Go.Proofs.Yteaoclpikdmkiaa
set_option linter.unusedVariables false
set_option linter.unusedSimpArgs false
/-- an owned list is cut: what is behind its first rows is forgotten -/
theorem ghost_trunc {s : Slots} {h h' : List Ent} {g n c k E sz : Nat} {rows : List (List AV)} (hp : Repl h (.rw (.slice (some ⟨g, 0, none⟩) n c) E sz rows) (.rw (.slice (some ⟨g, 0, none⟩) k c) E sz (rows.take k)) h') (hk : k ≤ rows.length) : Ghost s h s h' := fun B N w S a hs => by
  have hmem : Ent.rw (.slice (some ⟨g, 0, none⟩) n c) E sz rows ∈ h := by obtain ⟨p, q, rfl, _⟩ := hp.split; simp
  obtain ⟨xs, hown, hr, hlr⟩ := hs.heap.ent _ hmem
  rcases hown.2 with ⟨e0, _⟩ | ⟨g', cap, cur, e0, hb0, hg, hcap, hml, hsz, htk⟩
  · simp at e0
  simp at e0
  obtain ⟨rfl, hlen, rfl⟩ := e0
  have hkr : (rows.take k).length = k := by simp; omega
  have hks : k * sz ≤ rows.length * sz := Nat.mul_le_mul_right _ hk
  refine ⟨S, hs.repl hp ⟨rfl, rfl, rfl, Nat.le_refl _, fun _ _ _ => rfl⟩ ⟨xs.take (k * sz), ⟨?_, .inr ⟨g, c, cur, by rw [hkr], hb0, hg, by rw [hkr]; omega, hml, hsz, ?_⟩⟩, ?_, fun r hr' => hlr r (List.mem_of_mem_take hr')⟩ (fun g' hg' => .inl hg'), fun _ h => h⟩
  · rw [hkr, List.length_take, hown.1]; omega
  · rw [hkr, ← htk, List.take_take]
    congr 1
    omega
  · rw [flatten_take (k := k) hlr hk]
    exact hr.take _
/-- an owned list is lent to a call that returns something that does not lead to it -/
theorem acall_lend {P : Program} {g : Nat} {v : Value} {E sz n : Nat} {rows : List (List AV)} {f : Nat → List Tr} {args : List AV} {u : AV} (hcl : ∀ (w : World) (S S' : Nat → Prop) (v : Value), VRel w S u v → VRel w S' u v) (C : PCall P g (.t (.sl true sz n f) :: args) (fun r => r = u)) (hn : rows.length = n) (hf : ∀ k, k < n → rows.getD k [] = (f k).map AV.ofTr) :
    ACall P g (.v v :: args) [.rw v E sz rows] (fun r h' => r = u ∧ h' = [.rw v E sz rows]) := fun w S vs h1 h2 h3 => by
  have he := h2.ent _ List.mem_cons_self
  have ht := row_tree he hn hf
  have hown : ∀ b, v.ownBlock = some b → b < w.heap.size := fun b hb => by
    obtain ⟨xs, ho, _⟩ := he
    exact (ho.lt b hb).2
  have hlt' : ∀ b, (S b ∨ v.ownBlock = some b) → b < w.heap.size := fun b hb => by
    rcases hb with hb | hb
    · exact h1 b hb
    · exact hown b hb
  obtain ⟨a, us, rfl, ha, h4⟩ := rels1 h3
  have ea := ha.lit_inv
  subst ea
  refine (C w _ (a :: us) hlt' HRel.nil (.cons (.t ht) (h4.mono (fun b hb => .inl hb) (fun _ _ => rfl)))).mono fun e w' ⟨v', S'', r, h', e1, hq, hvr, E', hlt, hr, hl⟩ => ?_
  obtain ⟨rfl, rfl⟩ := hq
  have hk : ∀ b, b < w.heap.size → w'.heap[b]? = w.heap[b]? := fun b hb => E'.keep b hb (fun ⟨e, he, _⟩ => by cases he)
  exact ⟨_, S, _, _, e1, ⟨rfl, rfl⟩, hcl _ _ _ _ hvr, ⟨E'.os, E'.tape, E'.output, E'.size, fun b hb _ => hk b hb, fun _ h => h, fun _ h => .inl h⟩, fun b hb => Nat.lt_of_lt_of_le (h1 b hb) E'.size,
    h2.same h1 (fun _ h => h) (fun _ h => .inl h) ⟨E'.os, E'.tape, E'.output, E'.size, fun b hb _ => hk b hb⟩, fun e he g hg => .inl ⟨e, he, hg⟩⟩
theorem lit_closed {x : Value} (w : World) (S S' : Nat → Prop) (v : Value) (h : VRel w S (.v x) v) : VRel w S' (.v x) v := by cases h; exact .v _
section
variable {P : Program} {N : Nat} {ops : Array Oper} {s s' : Slots} {h h' : List Ent} {Q : Exit → Slots → List Ent → Prop} {r : Go.Proofs.Yteaoclpikdmkiaa.PT}
theorem awe_ghost (G : Ghost s h s' h') (H : AWE P N ops r Q s' h') : AWE P N ops r Q s h := fun B SS w S a hs => by
  obtain ⟨S', hs', _⟩ := G B N w S a hs
  exact H B SS w S' a hs'
end
section
variable {P : Program} {N : Nat} {ops : Array Oper} {so s : Slots} {ks h : List Ent} {Q : Exit → Slots → List Ent → Prop} {r : Go.Proofs.Yteaoclpikdmkiaa.PT} {i d : Nat} {o : Oper}
theorem awt_sk2u (ho : ops[i]? = some o) (hw : Wu ops o s) (hd : o.dst = some d) (hN : Nat.blt d N = true) (hn : look so d = none) (K : AWT P N ops so ks r Q ((d, .v undef) :: s) h) : AWT P N ops so ks (.op i 2 r) Q s h := fun B w0 S0 w S a hs hso hks hl hsz hS hk => by
  refine wpOX_of_if ho ?_
  rw [if_neg (by rw [hw.unwanted hs.slots]; simp), hd]
  exact ⟨hk, K B w0 S0 w S _ (hs.put (.v _) (blt_lt hN)) (hso.put0 (fun d' e => by cases e; exact hn)) hks hl hsz hS hk⟩
theorem awl_cap {l : List Oper} {g n c E sz : Nat} {rows : List (List AV)} (hm : Mem1 (.rw (.slice (some ⟨g, 0, none⟩) n c) E sz rows) h) (H : rows.length = n → n ≤ c → AWL P N ops l Q s h) : AWL P N ops l Q s h := fun B w S a hs => by
  obtain ⟨xs, hown, _⟩ := hs.heap.ent _ hm.mem
  refine H ?_ ?_ B w S a hs
  · rcases hown.2 with ⟨e, _⟩ | ⟨g', cap, cur, e, _⟩
    · simp at e
    · simp at e; exact e.2.1.symm
  · rcases hown.2 with ⟨e, _⟩ | ⟨g', cap, cur, e, _, _, hcap, _⟩
    · simp at e
    · simp at e; obtain ⟨_, e1, e2⟩ := e; omega
end
end Go.Tl
