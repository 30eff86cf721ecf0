/- Writes into owned slices, make, and calls, over plain trees. -/
import Derived.Test.YtilhflfbbfeakaaTl6
namespace Go.Tl
open Go Go.RowKit
set_option linter.unusedVariables false
set_option linter.unusedSimpArgs false

theorem flat_split {rows : List (List AV)} {sz : Nat} (h : ∀ r ∈ rows, r.length = sz) (k : Nat) (hk : k < rows.length) (r' : List AV) (hr : r'.length = sz) :
    (rows.set k r').flatten = rows.flatten.take (k * sz) ++ r' ++ rows.flatten.drop (k * sz + sz) := by
  induction rows generalizing k with
  | nil => simp at hk
  | cons c css ih =>
    have h0 := h c (by simp)
    cases k with
    | zero => simp [← h0]
    | succ k =>
      have h1 := ih (fun r hr => h r (by simp [hr])) k (by simpa using hk)
      have e : (k + 1) * sz = sz + k * sz := by rw [Nat.add_mul]; omega
      simp only [List.set_cons_succ, List.flatten_cons, h1]
      rw [e, List.take_append, List.drop_append, h0]
      rw [List.take_of_length_le (show c.length ≤ sz + k * sz by omega), List.drop_eq_nil_of_le (show c.length ≤ sz + k * sz + sz by omega)]
      simp only [List.nil_append, List.append_assoc]
      rw [show sz + k * sz - sz = k * sz by omega, show sz + k * sz + sz - sz = k * sz + sz by omega]
theorem sp_mid (A R C ys : List AV) (off : Nat) (ho : off + ys.length ≤ R.length) : spA (A ++ R ++ C) (A.length + off) ys = A ++ spA R off ys ++ C := by
  unfold spA
  rw [List.append_assoc A R C, List.take_append, List.drop_append, List.take_of_length_le (show A.length ≤ A.length + off by omega), List.drop_eq_nil_of_le (show A.length ≤ A.length + off + ys.length by omega)]
  rw [show A.length + off - A.length = off by omega, show A.length + off + ys.length - A.length = off + ys.length by omega]
  rw [List.take_append_of_le_length (by omega), List.drop_append_of_le_length ho]
  simp
theorem flat_sp {rows : List (List AV)} {sz : Nat} (h : ∀ r ∈ rows, r.length = sz) (k off : Nat) (hk : k < rows.length) (ys : List AV) (ho : off + ys.length ≤ sz) :
    (rows.set k (spA (rows.getD k []) off ys)).flatten = spA rows.flatten (k * sz + off) ys := by
  have hmem : rows.getD k [] ∈ rows := by rw [List.getD_eq_getElem?_getD, List.getElem?_eq_getElem hk]; exact List.getElem_mem hk
  have hlr := h _ hmem
  generalize hR : rows.getD k [] = R at *
  have hsp : (spA R off ys).length = sz := by simp only [spA, List.length_append, List.length_take, List.length_drop]; omega
  rw [flat_split h k hk _ hsp]
  have hfl : rows.flatten = rows.flatten.take (k * sz) ++ R ++ rows.flatten.drop (k * sz + sz) := by
    have h1 := flat_split h k hk R hlr
    rw [← h1, ← hR, List.getD_eq_getElem?_getD, List.getElem?_eq_getElem hk]
    simp
  have hlen : rows.flatten.length = rows.length * sz := by
    clear hk hfl hmem hlr ho hR hsp
    induction rows with
    | nil => simp
    | cons c css ih => simp only [List.flatten_cons, List.length_append, List.length_cons, Nat.add_mul, ih (fun r hr => h r (by simp [hr])), h c (by simp)]; omega
  have hks : k * sz ≤ rows.flatten.length := by
    rw [hlen]
    exact Nat.mul_le_mul_right _ (Nat.le_of_lt hk)
  have hA : (rows.flatten.take (k * sz)).length = k * sz := by rw [List.length_take]; omega
  have h2 := sp_mid (rows.flatten.take (k * sz)) R (rows.flatten.drop (k * sz + sz)) ys off (by omega)
  rw [← hfl, hA] at h2
  exact h2.symm

section
variable {P : Program} {N : Nat} {o : Oper} {md : Nat → Prop} {s : Slots} {h h1 : List Ent} {K : Slots → List Ent → Prop}

/-- an element of an owned slice is written, or a part of it -/
theorem aop_store_rp (T : TT P) {t n g off k len c E sz : Nat} {ag : Bool} {x y : Operand} {u : AV} {rows rows' : List (List AV)} {h' : List Ent} (ho : o.op = .store t x y) (hx : evA s x = some (.rp (.slice (some ⟨g, 0, none⟩) len c) sz k off)) (hy : evA s y = some u)
    (ht : f2 T.siz t = some (n, ag)) (hok : okA u = true) (hone : (cellsA u).all oneA = true) (hn : (cellsA u).length = n) (hd : o.dst = none) (hp : Repl h (.rw (.slice (some ⟨g, 0, none⟩) len c) E sz rows) (.rw (.slice (some ⟨g, 0, none⟩) len c) E sz rows') h')
    (hkl : k < rows.length) (hl : off + n ≤ sz) (hcs : rows.set k (spA (rows.getD k []) off (cellsA u)) = rows') (hmd : md g) (hK : K s h') : AOp P N o md s h K := fun B w S a hs Kr Qr hk => by
  obtain ⟨j, d, hj, hjn, hne, hu, hd'⟩ := T.siz_at ht
  have hv := hs.slots.eval hy
  have hxe := hs.slots.eval hx
  generalize hev : a.eval y = v at *
  generalize hex : a.eval x = p at *
  cases hxe with
  | rp =>
    have hmem : Ent.rw (.slice (some ⟨g, 0, none⟩) len c) E sz rows ∈ h := by obtain ⟨p, q, rfl, _⟩ := hp.split; simp
    obtain ⟨xs, hown, hr, hlr⟩ := hs.heap.ent _ hmem
    have hc := cellsA_rel hv hok
    have hcl : v.cells.toList.length = n := by rw [← hc.1]; exact hn
    have hones := ones_rel hc (by simpa [List.all_eq_true] using hone)
    have hvs : v.cells.size = v.cells.toList.length := by simp
    rcases hown.2 with ⟨e, _⟩ | ⟨g', cap, cur, e, hb0, hg, hcap, hml, hsz, htk⟩
    · simp at e
    · simp at e
      obtain ⟨rfl, hlen, rfl⟩ := e
      subst hlen
      have hsplit : k * sz + sz ≤ rows.length * sz := by
        calc k * sz + sz = (k + 1) * sz := by rw [Nat.add_mul]; omega
          _ ≤ rows.length * sz := Nat.mul_le_mul_right _ (by omega)
      have hcurlen : rows.length * sz ≤ cur.size := by rw [hsz]; exact Nat.mul_le_mul_right _ (by omega)
      have hst := run_storeCells_at P g (k * sz + off) E v.cells.toList 0 cur w hg (by omega) hones
      simp only [Nat.add_zero] at hst
      have hrun : (execOp a.eval o).run P w = .ok .skip (w.setRow g (cur.toList.take (k * sz + off) ++ v.cells.toList ++ cur.toList.drop (k * sz + off + v.cells.toList.length)).toArray) := by
        have hsz : v.cells.size = j.size := by rw [hjn, ← hcl]; simp
        have hst2 := hst
        simp at hst2
        simp [execOp, ho, hex, hev, Instr.storeAt, Instr.sureAddr, storeVar, run_sizeOf' hj, hsz]
        rw [hst2]
        simp [hsz]
      unfold wpX
      rw [hd] at hk
      rw [hrun, Oper.uponIn_skip, hd]
      generalize hnew : (cur.toList.take (k * sz + off) ++ v.cells.toList ++ cur.toList.drop (k * sz + off + v.cells.toList.length)).toArray = new at *
      have hgw := grown_setRow w g new
      have hkS : ∀ b, S b → (w.setRow g new).heap[b]? = w.heap[b]? := fun b hb => setRow_other w g b _ (fun e => hs.heap.off _ hmem g rfl (by rw [← e]; exact hb))
      have hnl : new.toList = cur.toList.take (k * sz + off) ++ v.cells.toList ++ cur.toList.drop (k * sz + off + v.cells.toList.length) := by rw [← hnew]
      have hll : (cellsA u).length = v.cells.toList.length := hc.1
      have hrows : rows'.length = rows.length := by rw [← hcs]; simp
      refine hk _ _ S _ _ hK ((hs.repl hp (.of hgw (by simp [Ent.blk, Value.ownBlock])) ⟨xs.take (k * sz + off) ++ v.cells.toList ++ xs.drop (k * sz + off + v.cells.toList.length), ⟨?_, .inr ⟨g, c, new, by rw [hrows], hb0, setRow_heap w g _ _ E _ hg, by rw [hrows]; exact hcap, hml, ?_, ?_⟩⟩, ?_, ?_⟩ (fun g' hg' => .inl hg')).putNone) ⟨by simp, fun b hb hnb => setRow_other w g b _ (fun e => hnb (by rw [e]; exact hmd)), fun _ h => h⟩
      · have := hown.1
        rw [hrows]
        simp only [List.length_append, List.length_take, List.length_drop]
        omega
      · rw [← Array.length_toList, hnl, ← hsz]
        simp only [List.length_append, List.length_take, List.length_drop, Array.length_toList]
        omega
      · rw [hnl, hrows, ← htk]
        have hfit : k * sz + off + v.cells.toList.length ≤ rows.length * sz := by omega
        rw [List.take_append, List.take_append, List.take_take, List.take_take]
        simp only [List.length_append, List.length_take, Array.length_toList]
        rw [List.take_of_length_le (show v.cells.toList.length ≤ _ by omega)]
        rw [List.drop_take]
        congr 2
        · congr 1
          omega
        · congr 1
          omega
      · subst hcs
        rw [flat_sp hlr k off hkl _ (by omega)]
        simp only [spA]
        rw [hll]
        exact ((hr.take _).append hc |>.append (hr.drop _)).mono (fun _ h => h) hkS
      · intro r hr'
        subst hcs
        rcases List.mem_or_eq_of_mem_set hr' with h2 | h2
        · exact hlr r h2
        · rw [h2]
          have hmemk : rows.getD k [] ∈ rows := by rw [List.getD_eq_getElem?_getD, List.getElem?_eq_getElem hkl]; exact List.getElem_mem hkl
          have := hlr _ hmemk
          simp only [spA, List.length_append, List.length_take, List.length_drop]
          omega
end
end Go.Tl
