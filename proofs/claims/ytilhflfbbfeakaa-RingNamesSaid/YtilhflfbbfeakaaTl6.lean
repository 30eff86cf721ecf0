/- append, writes into owned slices, make, over plain trees; what is made becomes stable. -/
import Derived.Test.YtilhflfbbfeakaaTl5
namespace Go.Tl
open Go Go.RowKit
set_option linter.unusedVariables false
set_option linter.unusedSimpArgs false

theorem Pick.subH {h h1 : List Ent} {e e' : Ent} (hp : Pick h e h1) : ∃ h2, Repl h e e' h2 ∧ SubH (e' :: h1) h2 := by
  have refl : ∀ l : List Ent, SubH l l := by
    intro l
    induction l with
    | nil => exact .nil
    | cons x l ih => exact .cons .here ih
  induction hp with
  | @here x l => exact ⟨e' :: l, .here, refl _⟩
  | @there x z l l' hp ih =>
    obtain ⟨h2, hr, hs⟩ := ih
    refine ⟨z :: h2, .there hr, ?_⟩
    cases hs with
    | cons hp' hs' => exact .cons (.there hp') (.cons .here hs')

section
variable {B : Base} {N : Nat} {w : World} {S : Nat → Prop} {s : Slots} {h h1 : List Ent} {a : Act}
theorem Sim.move (H : Sim B N w S s h a) {w' : World} {e e' : Ent} (hp : Pick h e h1) (hg : Grw w w' e.blk)
    (he : ERel w' S e') (hb : ∀ g, e'.blk g → e.blk g ∨ w.heap.size ≤ g) : Sim B N w' S s (e' :: h1) a := by
  obtain ⟨h2, hr, hs⟩ := hp.subH (e' := e')
  have H2 := H.repl hr hg he hb
  exact ⟨H2.ext, H2.defs.keep (fun _ _ _ => rfl) (fun _ h => .inl h) (fun e he r hb => .inl ⟨e, hs.mem e he, hb⟩), H2.size, H2.slots, H2.lt, hs.heap H2.heap, fun z hz => H2.live z (hs.mem z hz), H2.off⟩
end

/-! steps that no operation takes -/
def Ghost (s : Slots) (h : List Ent) (s' : Slots) (h' : List Ent) : Prop := ∀ (B : Base) (N : Nat) (w : World) (S : Nat → Prop) (a : Act), Sim B N w S s h a → ∃ S', Sim B N w S' s' h' a ∧ ∀ b, S b → S' b
theorem awp_ghost {P : Program} {N : Nat} {ro : Option Nat} {c : Code} {Q : Exit → Slots → List Ent → Prop} {s s' : Slots} {h h' : List Ent} (G : Ghost s h s' h') (H : AWP P N ro c Q s' h') : AWP P N ro c Q s h := fun B w S a hs => by
  obtain ⟨S', hs', _⟩ := G B N w S a hs
  exact H B w S' a hs'
theorem awl_ghost {P : Program} {N : Nat} {ops : Array Oper} {l : List Oper} {Q : Exit → Slots → List Ent → Prop} {s s' : Slots} {h h' : List Ent} (G : Ghost s h s' h') (H : AWL P N ops l Q s' h') : AWL P N ops l Q s h := fun B w S a hs => by
  obtain ⟨S', hs', _⟩ := G B N w S a hs
  exact H B w S' a hs'
theorem Ghost.trans {s s' s'' : Slots} {h h' h'' : List Ent} (G : Ghost s h s' h') (G' : Ghost s' h' s'' h'') : Ghost s h s'' h'' := fun B N w S a hs => by
  obtain ⟨S', hs', k⟩ := G B N w S a hs
  obtain ⟨S'', hs'', k'⟩ := G' B N w S' a hs'
  exact ⟨S'', hs'', fun b hb => k' b (k b hb)⟩
theorem Ghost.refl {s : Slots} {h : List Ent} : Ghost s h s h := fun B N w S a hs => ⟨S, hs, fun _ h => h⟩
theorem ghost_nilrow {s : Slots} {h : List Ent} (E sz : Nat) : Ghost s h s (.rw (.slice none 0 0) E sz [] :: h) := fun B N w S a hs =>
  ⟨S, hs.push .refl ⟨[], ⟨by simp, .inl ⟨rfl, rfl⟩⟩, .nil, by simp⟩ (fun g hg => by simp [Ent.blk, Value.ownBlock] at hg), fun _ h => h⟩
theorem ghost_weak {s s' : Slots} {h h' : List Ent} (h1 : SubS s' s) (h2 : SubH h' h) : Ghost s h s' h' := fun B N w S a hs => ⟨S, hs.weak h1 h2, fun _ h => h⟩
theorem ofTr_inv {w : World} {S : Nat → Prop} {t : Tr} {v : Value} (h : VRel w S (AV.ofTr t) v) : TRel w S t v := by
  cases t with
  | sc u => have := h.lit_inv; subst this; exact .sc _
  | sl cp sz n f => cases h with | t h => exact h
theorem row_tree {w : World} {S : Nat → Prop} {v : Value} {E sz n : Nat} {rows : List (List AV)} {f : Nat → List Tr} (he : ERel w S (.rw v E sz rows)) (hn : rows.length = n) (hf : ∀ k, k < n → rows.getD k [] = (f k).map AV.ofTr) :
    TRel w (fun b => S b ∨ v.ownBlock = some b) (.sl true sz n f) v := by
  obtain ⟨xs, hown, hr, hl⟩ := he
  have hc := @World.ownsRow.cells _ _ _ _ _ _ _ hown
  subst hn
  rcases hown.2 with ⟨rfl, h0⟩ | ⟨g, cap, cur, rfl, _, hg, hcap, _, hsz, htk⟩
  · rw [h0]
    exact .sl (fun _ _ => undef) (fun _ => Nat.le_refl _) (fun k hk => absurd hk (by omega)) (fun k hk => absurd hk (by omega)) (fun k j x hk => absurd hk (by omega))
  · have hlk : ∀ k, k < rows.length → (f k).length = sz := fun k hk => by
      have h1 := hf k hk
      have h2 : rows.getD k [] ∈ rows := by rw [List.getD_eq_getElem?_getD, List.getElem?_eq_getElem hk]; exact List.getElem_mem hk
      have h3 := hl _ h2
      rw [h1] at h3
      simpa using h3
    have hxl : xs.length = rows.length * sz := hown.1
    have hcell : ∀ k j, k < rows.length → j < sz → ∃ u, xs[k * sz + j]? = some u := fun k j hk hj => by
      have : k * sz + j < xs.length := by
        rw [hxl]
        calc k * sz + j < k * sz + sz := by omega
          _ = (k + 1) * sz := by rw [Nat.add_mul]; omega
          _ ≤ rows.length * sz := Nat.mul_le_mul_right _ hk
      exact ⟨_, List.getElem?_eq_getElem this⟩
    refine .sl (fun k j => xs.getD (k * sz + j) undef) (fun _ => hcap) hlk (fun k hk => ⟨g, 0, rfl, .inr rfl, fun j hj => ?_⟩) (fun k j x hk hx => ?_)
    · obtain ⟨u, hu⟩ := hcell k j hk hj
      have h4 := hc (g := g) rfl _ _ hu
      rw [Addr.add_lit] at h4
      rw [Nat.zero_add] at h4 ⊢
      rw [h4, List.getD_eq_getElem?_getD, hu]
      rfl
    · have hj : j < sz := by rw [← hlk k hk]; exact (List.getElem?_eq_some_iff.1 hx).1
      obtain ⟨u, hu⟩ := hcell k j hk hj
      have h5 : rows.flatten[k * sz + j]? = some (AV.ofTr x) := by rw [flat_get hl k j hk hj, hf k hk, List.getElem?_map, hx]; rfl
      have h6 := hr.2 _ _ _ h5 hu
      show TRel w _ x (xs.getD (k * sz + j) undef)
      rw [List.getD_eq_getElem?_getD, hu]
      exact (ofTr_inv h6).mono (fun _ h => .inl h) (fun _ _ => rfl)
/-- an owned list is not written any more: the slot holds a tree -/
theorem ghost_freeze {s : Slots} {h h1 : List Ent} {v : Value} {E sz n d : Nat} {rows : List (List AV)} (f : Nat → List Tr) (hp : Pick h (.rw v E sz rows) h1) (hd : look s d = some (.v v)) (hn : rows.length = n) (hf : ∀ k, k < n → rows.getD k [] = (f k).map AV.ofTr) :
    Ghost s h ((d, .t (.sl true sz n f)) :: s) h1 := fun B N w S a hs => by
  have hmem : Ent.rw v E sz rows ∈ h := by obtain ⟨x, y, rfl, _⟩ := hp.split; simp
  have ht := row_tree (hs.heap.ent _ hmem) hn hf
  have hs' := hs.freeze hp
  refine ⟨_, ⟨hs'.ext, hs'.defs, hs'.size, fun e x hx => ?_, hs'.lt, hs'.heap, hs'.live, hs'.off⟩, fun _ h => .inl h⟩
  simp only [look] at hx
  cases hb : Nat.beq d e with
  | true =>
    rw [hb] at hx
    simp at hx
    subst hx
    obtain ⟨u, hu, hr⟩ := hs.slots d _ hd
    rw [← Nat.eq_of_beq_eq_true hb]
    rw [hr.lit_inv] at hu
    exact ⟨v, hu, .t ht⟩
  | false =>
    rw [hb] at hx
    exact hs'.slots e x hx
/-- a cell of a variable holds a list that is not written any more -/
theorem ghost_freeze_cell {s : Slots} {h h1 h2 : List Ent} {v : Value} {E sz n g j : Nat} {T : TypeId} {cs cs' : List AV} {rows : List (List AV)} (f : Nat → List Tr) (hp : Pick h (.rw v E sz rows) h1) (hr : Repl h1 (.cl g T cs) (.cl g T cs') h2) (hd : cs[j]? = some (.v v)) (hcs : cs.set j (.t (.sl true sz n f)) = cs') (hn : rows.length = n)
    (hf : ∀ k, k < n → rows.getD k [] = (f k).map AV.ofTr) : Ghost s h s h2 := fun B N w S a hs => by
  have hmem : Ent.rw v E sz rows ∈ h := by obtain ⟨x, y, rfl, _⟩ := hp.split; simp
  have ht := row_tree (hs.heap.ent _ hmem) hn hf
  have hs' := hs.freeze hp
  have hm2 : Ent.cl g T cs ∈ h1 := by obtain ⟨x, y, rfl, _⟩ := hr.split; simp
  obtain ⟨vs, hvs, hrel⟩ := hs'.heap.ent _ hm2
  obtain ⟨u, hu, hur⟩ := hrel.get hd
  have hset : vs.set j v = vs := by
    rw [hur.lit_inv] at hu
    obtain ⟨hj, e⟩ := List.getElem?_eq_some_iff.1 hu
    rw [← e]; simp
  refine ⟨_, hs'.repl hr .refl ⟨vs, hvs, ?_⟩ (fun g' h' => .inl h'), fun _ h => .inl h⟩
  subst hcs
  have := hrel.set (j := j) (.t ht : VRel w _ (.t (.sl true sz n f)) v)
  rwa [hset] at this
theorem awp_open {P : Program} {N : Nat} {ro : Option Nat} {c : Code} {Q : Exit → Slots → List Ent → Prop} {s : Slots} {h : List Ent} {v : Value} {E sz : Nat} {rows : List (List AV)} (hm : Mem1 (.rw v E sz rows) h)
    (H : ∀ ad cap, v = .slice ad rows.length cap → (0 < rows.length → ∃ g, ad = some ⟨g, 0, none⟩) → AWP P N ro c Q s h) : AWP P N ro c Q s h := fun B w S a hs => by
  obtain ⟨xs, hown, _⟩ := hs.heap.ent _ hm.mem
  rcases hown.2 with ⟨e, h0⟩ | ⟨g, cap, cur, e, _⟩
  · exact H none 0 (by rw [e, h0]) (fun h => by omega) B w S a hs
  · exact H (some ⟨g, 0, none⟩) cap e (fun _ => ⟨g, rfl⟩) B w S a hs
theorem awl_open {P : Program} {N : Nat} {ops : Array Oper} {l : List Oper} {Q : Exit → Slots → List Ent → Prop} {s : Slots} {h : List Ent} {v : Value} {E sz : Nat} {rows : List (List AV)} (hm : Mem1 (.rw v E sz rows) h)
    (H : ∀ ad cap, v = .slice ad rows.length cap → (0 < rows.length → ∃ g, ad = some ⟨g, 0, none⟩) → AWL P N ops l Q s h) : AWL P N ops l Q s h := fun B w S a hs => by
  obtain ⟨xs, hown, _⟩ := hs.heap.ent _ hm.mem
  rcases hown.2 with ⟨e, h0⟩ | ⟨g, cap, cur, e, _⟩
  · exact H none 0 (by rw [e, h0]) (fun h => by omega) B w S a hs
  · exact H (some ⟨g, 0, none⟩) cap e (fun _ => ⟨g, rfl⟩) B w S a hs

section
variable {P : Program} {N : Nat} {o : Oper} {md : Nat → Prop} {s : Slots} {h h1 : List Ent} {K : Slots → List Ent → Prop}

theorem app_core (T : TT P) {t e sz bt : Nat} {z : Value} (ht : f2 T.elm t = some (e, sz, bt)) (hz : f2 T.zer e = some z) (hzs : z.cells.size = sz) (hbt : bt ≤ 1000) {w : World} {S : Nat → Prop} {v : Value} {rows news : List (List AV)} {m c : Nat} {ad : Addr} {us : List Value} {ty : TypeId}
    (he : ERel w S (.rw v e sz rows)) (hu : VRels w S news.flatten us) (hl : us.length = m * sz) (hm : news.length = m) (hcell : ∀ j u, us[j]? = some u → w.cell? (ad.add j) = some u) (hone : ∀ u ∈ us, u.oneCell' = true) (hb : rows.length + m ≤ 1000000) (hr : ∀ r ∈ news, r.length = sz)
    (hS : ∀ b, S b → b < w.heap.size ∧ v.ownBlock ≠ some b) :
    ∃ ad' cap w', (Builtin.append_ #[t, t] ty #[v, .slice (some ad) m c]).run P w = .ok (.slice ad' (rows.length + m) cap) w' ∧ ERel w' S (.rw (.slice ad' (rows.length + m) cap) e sz (rows ++ news)) ∧ w.grownBy w' v.ownBlock ∧
      (∀ g, Value.ownBlock (.slice ad' (rows.length + m) cap) = some g → v.ownBlock = some g ∨ w.heap.size ≤ g) ∧ (0 < m → ∃ g, ad' = some ⟨g, 0, none⟩) := by
  obtain ⟨j, hund, hj, hjs, hjb, hne⟩ := T.elm_at ht
  have h1 := zOk_at T.zerOk hz
  obtain ⟨i, hi, hiz⟩ := Option.map_eq_some_iff.1 h1
  rw [hj] at hi
  simp at hi
  subst hi
  obtain ⟨xs, hown, hxr, hlr⟩ := he
  have hbytes : (rows.length + m) * bt ≤ 140737488355328 := by
    calc (rows.length + m) * bt ≤ 1000000 * 1000 := Nat.mul_le_mul hb hbt
      _ ≤ 140737488355328 := by omega
  have h63 : rows.length + m ≤ maxLen := by unfold maxLen; omega
  rcases Nat.eq_zero_or_pos m with h0 | h0
  · subst h0
    have hus : us = [] := List.length_eq_zero_iff.1 (by rw [hl]; simp)
    have hnews : news = [] := List.length_eq_zero_iff.1 hm
    subst hnews
    have hf0 : (Builtin.firstCells sz 0 (.slice (some ad) 0 c)).run P w = .ok #[] w := by simp [Builtin.firstCells, loadCells, loadCellsFrom]
    have hform : ∃ ad' cap, v = .slice ad' rows.length cap ∧ rows.length ≤ cap := by
      rcases hown.2 with ⟨e1, e2⟩ | ⟨g, cap, cur, e1, _, _, e2, _⟩
      · exact ⟨none, 0, by rw [e1, e2], by omega⟩
      · exact ⟨_, cap, e1, e2⟩
    obtain ⟨ad', cap, rfl, hcap⟩ := hform
    refine ⟨ad', cap, w, ?_, by simpa using ⟨xs, hown, hxr, hlr⟩, World.grownBy.refl _ _, fun g hg => .inl hg, fun h => absurd h (by omega)⟩
    have hx : (Builtin.append_ #[t, t] ty #[.slice ad' rows.length cap, .slice (some ad) 0 c]).run P w = .ok (.slice ad' rows.length cap) w := by
      cases ad' <;> simp [Builtin.append_, run_underlying hund, run_sizeOf' hj, hjs, Builtin.lenOf, hcap, hf0, storeCells]
    simpa using hx
  · obtain ⟨g, cap, w', hrun, ho', hg', hat, hlt⟩ := run_append_lies (P := P) w t ty 0 e j z sz bt hund hj hiz hjs hjb hzs (by omega) v rows.length xs hown ad m c us hl hcell hone h0 h63 hbytes (Nat.zero_le _) w.heap.size rfl
    have hkS : ∀ b, S b → w'.heap[b]? = w.heap[b]? := fun b hb => hg'.block b (hS b hb).1 (fun e0 => (hS b hb).2 e0.symm)
    refine ⟨some ⟨g, 0, none⟩, cap, w', hrun, ⟨xs ++ us, by rw [List.length_append, hm]; exact ho', ?_, fun r hr' => ?_⟩, hg', fun g' hg1 => ?_, fun _ => ⟨g, rfl⟩⟩
    · rw [List.flatten_append]
      exact (hxr.append hu).mono (fun _ h => h) hkS
    · rcases List.mem_append.1 hr' with h2 | h2
      · exact hlr r h2
      · exact hr r h2
    · simp [Value.ownBlock] at hg1
      subst hg1
      rcases hat with h2 | h2
      · exact .inl h2
      · exact .inr (by omega)
theorem Sim.notS {B : Base} {w : World} {S : Nat → Prop} {a : Act} (H : Sim B N w S s h a) {e : Ent} (hm : e ∈ h) : ∀ b, S b → b < w.heap.size ∧ ¬ e.blk b := fun b hb => ⟨H.lt b hb, fun e0 => H.heap.off e hm b e0 hb⟩
/-- append of what was just made -/
theorem aop_append (T : TT P) {t d e sz bt m c g' : Nat} {z v : Value} {x y : Operand} {rows news : List (List AV)} (ho : o.op = .call { callee := .builtin .append, args := #[x, y], argTypes := #[t, t] }) (hd : o.dst = some d) (hN : d < N)
    (ht : f2 T.elm t = some (e, sz, bt)) (hz : f2 T.zer e = some z) (hzs : z.cells.size = sz) (hbt : Nat.ble bt 1000 = true) (hx : evA s x = some (.v v)) (hy : evA s y = some (.v (.slice (some ⟨g', 0, none⟩) m c)))
    (hp : Pick h (.rw v e sz rows) h1) (hq : Mem1 (.rw (.slice (some ⟨g', 0, none⟩) m c) e sz news) h) (hm : news.length = m) (hb : rows.length + m ≤ 1000000) (hone : ∀ r ∈ news, ∀ u ∈ r, oneA u = true) (hmd : ∀ b, v.ownBlock = some b → md b)
    (hK : ∀ ad cap, (0 < m → ∃ g, ad = some ⟨g, 0, none⟩) → K ((d, .v (.slice ad (rows.length + m) cap)) :: s) (.rw (.slice ad (rows.length + m) cap) e sz (rows ++ news) :: h1)) : AOp P N o md s h K := fun B w S a hs Kr Qr hk => by
  have hmem : Ent.rw v e sz rows ∈ h := by obtain ⟨p, q, rfl, _⟩ := hp.split; simp
  obtain ⟨us, hown2, hu, hlu⟩ := hs.heap.ent _ hq.mem
  have hc2 := @World.ownsRow.cells _ _ _ _ _ _ _ hown2
  obtain ⟨ad, cap, w', hrun, he', hg', hblk, hpos⟩ := app_core T ht hz hzs (Nat.le_of_ble_eq_true hbt) (ty := o.type) (hs.heap.ent _ hmem) hu (by rw [← hm]; exact hown2.1) hm (fun j u hj => hc2 rfl j u hj) (fun u hu' => by
      have := ones_rel hu (fun c hc => by
        obtain ⟨r, hr, hcr⟩ := List.mem_flatten.1 hc
        exact hone r hr c hcr)
      exact this u hu') hb hlu (hs.notS hmem) (c := c)
  have hrun2 : (execOp a.eval o).run P w = .ok (.value (.slice ad (rows.length + m) cap)) w' := by
    simp [execOp, ho, resolve, invoke, builtin, hs.slots.lit hx, hs.slots.lit hy, hrun]
  unfold wpX
  rw [hd] at hk
  rw [hrun2, Oper.uponIn_value, hd]
  exact hk _ _ S _ _ (hK ad cap hpos) ((hs.move hp (.of hg' (fun _ e => e)) he' hblk).put (.v _) hN) ⟨hg'.size, fun b hb hnb => hg'.block b hb (fun e0 => hnb (hmd b e0.symm)), fun _ h => h⟩
/-- append of a stable slice -/
theorem aop_append_t (T : TT P) {t d e sz bt m : Nat} {z v : Value} {x y : Operand} {rows : List (List AV)} {cp : Bool} {f : Nat → List Tr} (ho : o.op = .call { callee := .builtin .append, args := #[x, y], argTypes := #[t, t] }) (hd : o.dst = some d) (hN : d < N)
    (ht : f2 T.elm t = some (e, sz, bt)) (hz : f2 T.zer e = some z) (hzs : z.cells.size = sz) (hbt : Nat.ble bt 1000 = true) (hx : evA s x = some (.v v)) (hy : evA s y = some (.t (.sl cp sz m f)))
    (hp : Pick h (.rw v e sz rows) h1) (hb : rows.length + m ≤ 1000000) (hone : ∀ k, k < m → ∀ u ∈ f k, oneA (AV.ofTr u) = true) (hmd : ∀ b, v.ownBlock = some b → md b)
    (hK : ∀ ad cap, (0 < m → ∃ g, ad = some ⟨g, 0, none⟩) → K ((d, .v (.slice ad (rows.length + m) cap)) :: s) (.rw (.slice ad (rows.length + m) cap) e sz (rows ++ (List.range m).map fun k => (f k).map AV.ofTr) :: h1)) : AOp P N o md s h K := fun B w S a hs Kr Qr hk => by
  have hmem : Ent.rw v e sz rows ∈ h := by obtain ⟨p, q, rfl, _⟩ := hp.split; simp
  have hye := hs.slots.eval hy
  generalize hev : a.eval y = u0 at *
  cases hye with
  | t hT =>
    cases hT with
    | @sl _ _ _ _ a0 c val hc hl hh ih =>
      have main : ∃ ad cap w', (Builtin.append_ #[t, t] o.type #[v, .slice a0 m c]).run P w = .ok (.slice ad (rows.length + m) cap) w' ∧ ERel w' S (.rw (.slice ad (rows.length + m) cap) e sz (rows ++ (List.range m).map fun k => (f k).map AV.ofTr)) ∧ w.grownBy w' v.ownBlock ∧
          (∀ g, Value.ownBlock (.slice ad (rows.length + m) cap) = some g → v.ownBlock = some g ∨ w.heap.size ≤ g) ∧ (0 < m → ∃ g, ad = some ⟨g, 0, none⟩) := by
        rcases Nat.eq_zero_or_pos m with h0 | h0
        · subst h0
          obtain ⟨j, hund, hj, hjs, hjb, hne⟩ := T.elm_at ht
          obtain ⟨xs, hown, hxr, hlr⟩ := hs.heap.ent _ hmem
          have hf0 : (Builtin.firstCells sz 0 (.slice a0 0 c)).run P w = .ok #[] w := by cases a0 <;> simp [Builtin.firstCells, loadCells, loadCellsFrom]
          have hform : ∃ ad' cap, v = .slice ad' rows.length cap ∧ rows.length ≤ cap := by
            rcases hown.2 with ⟨e1, e2⟩ | ⟨g, cap, cur, e1, _, _, e2, _⟩
            · exact ⟨none, 0, by rw [e1, e2], by omega⟩
            · exact ⟨_, cap, e1, e2⟩
          obtain ⟨ad', cap, rfl, hcap⟩ := hform
          refine ⟨ad', cap, w, ?_, by simpa using ⟨xs, hown, hxr, hlr⟩, World.grownBy.refl _ _, fun g hg => .inl hg, fun h => absurd h (by omega)⟩
          have hx2 : (Builtin.append_ #[t, t] o.type #[.slice ad' rows.length cap, .slice a0 0 c]).run P w = .ok (.slice ad' rows.length cap) w := by
            cases ad' <;> simp [Builtin.append_, run_underlying hund, run_sizeOf' hj, hjs, Builtin.lenOf, hcap, hf0, storeCells]
          simpa using hx2
        · obtain ⟨b, off, rfl, hb0, _⟩ := hh 0 h0
          have hh' : ∀ k, k < m → ∀ j, j < sz → w.cell? ⟨b, off + k * sz + j, none⟩ = some (val k j) := fun k hk j hj => by
            obtain ⟨b', off', e1, _, h3⟩ := hh k hk
            simp at e1
            obtain ⟨rfl, rfl⟩ := e1
            exact h3 j hj
          have hsz : sz ≠ 0 := by obtain ⟨_, _, _, _, _, hne⟩ := T.elm_at ht; exact hne
          have hU : VRels w S ((List.range m).map fun k => (f k).map AV.ofTr).flatten ((List.range m).map fun k => (List.range sz).map (val k)).flatten := by
            have : ∀ l : List Nat, (∀ k ∈ l, k < m) → VRels w S (l.map fun k => (f k).map AV.ofTr).flatten (l.map fun k => (List.range sz).map (val k)).flatten := by
              intro l
              induction l with
              | nil => intro _; exact .nil
              | cons k l ihl =>
                intro hk
                simp only [List.map_cons, List.flatten_cons]
                refine VRels.append (VRels.ofTr (by simp [hl k (hk k (by simp))]) (fun j x v hx hv => ?_)) (ihl (fun k' h' => hk k' (by simp [h'])))
                rw [List.getElem?_map] at hv
                have hj : j < sz := by rw [← hl k (hk k (by simp))]; exact (List.getElem?_eq_some_iff.1 hx).1
                rw [List.getElem?_range hj] at hv
                simp at hv
                subst hv
                exact ih k j x (hk k (by simp)) hx
            exact this _ (fun k hk => List.mem_range.1 hk)
          have hlen : ((List.range m).map fun k => (List.range sz).map (val k)).flatten.length = m * sz := by
            rw [List.length_flatten]; simp [List.map_const', Function.comp_def]
          refine app_core T ht hz hzs (Nat.le_of_ble_eq_true hbt) (ty := o.type) (c := c) (hs.heap.ent _ hmem) hU hlen (by simp) (fun q u hq => ?_) (fun u hu => ?_) hb (fun r hr => ?_) (hs.notS hmem)
          · have hqlt : q < m * sz := by rw [← hlen]; exact (List.getElem?_eq_some_iff.1 hq).1
            have hk : q / sz < m := (Nat.div_lt_iff_lt_mul (by omega)).2 hqlt
            have hj : q % sz < sz := Nat.mod_lt _ (by omega)
            have e2 : q = q / sz * sz + q % sz := by rw [Nat.mul_comm]; exact (Nat.div_add_mod q sz).symm
            rw [Addr.add_lit, show off + q = off + q / sz * sz + q % sz by omega, hh' _ hk _ hj]
            have hfl : ∀ (l : List Nat) (i j : Nat), i < l.length → j < sz → (l.map fun k => (List.range sz).map (val k)).flatten[i * sz + j]? = some (val (l.getD i 0) j) := by
              intro l
              induction l with
              | nil => intro i j hi; simp at hi
              | cons k l ihl =>
                intro i j hi hj
                cases i with
                | zero => simp [List.getElem?_append, hj]
                | succ i =>
                  have e3 : (i + 1) * sz + j = sz + (i * sz + j) := by rw [Nat.add_mul]; omega
                  simp only [List.map_cons, List.flatten_cons]
                  rw [e3, List.getElem?_append_right (by simp)]
                  simp only [List.length_map, List.length_range, Nat.add_sub_cancel_left]
                  rw [ihl i j (by simpa using hi) hj]
                  simp
            rw [e2, hfl _ _ _ (by simpa using hk) hj] at hq
            rw [← hq]
            simp [List.getD_eq_getElem?_getD, hk]
          · have := ones_rel hU (fun cc hcc => by
              obtain ⟨r, hr, hcr⟩ := List.mem_flatten.1 hcc
              obtain ⟨k, hk, rfl⟩ := List.mem_map.1 hr
              obtain ⟨x, hx', rfl⟩ := List.mem_map.1 hcr
              exact hone k (List.mem_range.1 hk) x hx')
            exact this u hu
          · obtain ⟨k, hk, rfl⟩ := List.mem_map.1 hr
            simp [hl k (List.mem_range.1 hk)]
      obtain ⟨ad, cap, w', hrun, he', hg', hblk, hpos⟩ := main
      have hrun2 : (execOp a.eval o).run P w = .ok (.value (.slice ad (rows.length + m) cap)) w' := by
        simp [execOp, ho, resolve, invoke, builtin, hs.slots.lit hx, hev, hrun]
      unfold wpX
      rw [hd] at hk
      rw [hrun2, Oper.uponIn_value, hd]
      exact hk _ _ S _ _ (hK ad cap hpos) ((hs.move hp (.of hg' (fun _ e => e)) he' hblk).put (.v _) hN) ⟨hg'.size, fun b hb hnb => hg'.block b hb (fun e0 => hnb (hmd b e0.symm)), fun _ h => h⟩
end
end Go.Tl
