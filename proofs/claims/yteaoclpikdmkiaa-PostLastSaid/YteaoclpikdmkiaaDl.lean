/- Owned lists that become shorter: slices of them, and clear. -/
import Derived.Test.YteaoclpikdmkiaaGTx
namespace Go.Tl
open Go Go.RowKit
set_option linter.unusedVariables false
set_option linter.unusedSimpArgs false
section
variable {P : Program} {N : Nat} {ro : Option Nat} {o : Oper} {md : Nat → Prop} {s : Slots} {h : List Ent} {K : Slots → List Ent → Prop} {Q : Exit → Slots → List Ent → Prop}
/-- an owned list has room for its rows -/
theorem awp_cap {code : Code} {g n c E sz : Nat} {rows : List (List AV)} (hm : Mem1 (.rw (.slice (some ⟨g, 0, none⟩) n c) E sz rows) h) (H : rows.length = n → n ≤ c → AWP P N ro code Q s h) : AWP P N ro code Q s h := fun B w S a hs => by
  obtain ⟨xs, hown, _⟩ := hs.heap.ent _ hm.mem
  refine H ?_ ?_ B w S a hs
  · rcases hown.2 with ⟨e, _⟩ | ⟨g', cap, cur, e, _⟩
    · simp at e
    · simp at e; exact e.2.1.symm
  · rcases hown.2 with ⟨e, _⟩ | ⟨g', cap, cur, e, _, _, hcap, _⟩
    · simp at e
    · simp at e; obtain ⟨_, e1, e2⟩ := e; omega
theorem pv_slice_lo_own (T : TT P) {t e sz bt g n c k : Nat} {x y : Operand} {kd : IntKind} {i : Int} (ho : o.op = .slice t x (some y) none none) (hx : evA s x = some (.v (.slice (some ⟨g, 0, none⟩) n c))) (hy : evA s y = some (.v (.int kd i)))
    (ht : f2 T.elm t = some (e, sz, bt)) (hk : i = (k : Int)) (hkn : k < n) (hnc : n ≤ c) : PV P o s (.v (.slice (some ⟨g, k * sz, none⟩) (n - k) (c - k))) := fun w S a hs => by
  obtain ⟨j, hund, hj, hjs, hjb, hne⟩ := T.elm_at ht
  subst hk
  refine ⟨_, fun w' => ?_, .v _⟩
  have e1 : (k : Int) ≤ (n : Int) := by omega
  have e2 : ¬ c = k := by omega
  simp [execOp, ho, hs.lit hx, hs.lit hy, Instr.sliceAt, Instr.slice, run_underlying hund, Instr.sliceBounds, Instr.sliceBound, asIntOf, e1, run_sizeOf' hj, hjs, e2, Addr.add_lit]
  intro hlt
  exact absurd hlt (by omega)
theorem pv_slice_hi_own (T : TT P) {t e sz bt g n c k : Nat} {x y : Operand} {kd : IntKind} {i : Int} (ho : o.op = .slice t x none (some y) none) (hx : evA s x = some (.v (.slice (some ⟨g, 0, none⟩) n c))) (hy : evA s y = some (.v (.int kd i)))
    (ht : f2 T.elm t = some (e, sz, bt)) (hk : i = (k : Int)) (hkn : k ≤ n) (hnc : n ≤ c) : PV P o s (.v (.slice (some ⟨g, 0, none⟩) k c)) := fun w S a hs => by
  obtain ⟨j, hund, hj, hjs, hjb, hne⟩ := T.elm_at ht
  subst hk
  refine ⟨_, fun w' => ?_, .v _⟩
  have e1 : (k : Int) ≤ (c : Int) := by omega
  by_cases hc : c = 0
  · subst hc
    obtain rfl : k = 0 := by omega
    simp [execOp, ho, hs.lit hx, hs.lit hy, Instr.sliceAt, Instr.slice, run_underlying hund, Instr.sliceBounds, Instr.sliceBound, asIntOf, e1, run_sizeOf' hj, Addr.add_lit]
  · simp [execOp, ho, hs.lit hx, hs.lit hy, Instr.sliceAt, Instr.slice, run_underlying hund, Instr.sliceBounds, Instr.sliceBound, asIntOf, e1, run_sizeOf' hj, hc, Addr.add_lit]
    intro hlt
    exact absurd hlt (by omega)
theorem flatten_take {α : Type} {sz : Nat} : ∀ {rows : List (List α)} {k : Nat}, (∀ r ∈ rows, r.length = sz) → k ≤ rows.length → (rows.take k).flatten = rows.flatten.take (k * sz)
  | [], k, _, _ => by simp
  | r :: rows, 0, _, _ => by simp
  | r :: rows, k + 1, hl, hk => by
    have hr0 := hl r (by simp)
    rw [List.take_succ_cons, List.flatten_cons, List.flatten_cons, flatten_take (rows := rows) (k := k) (fun r' h' => hl r' (by simp [h'])) (by simpa using hk), Nat.add_mul, Nat.one_mul, Nat.add_comm, List.take_add, List.take_left' hr0, List.drop_left' hr0]
/-- clear of the end of an owned list: what is before it is owned from here on -/
theorem aop_clear_own (T : TT P) {t e sz bt g n c k m q : Nat} {x : Operand} {z : Value} {E : Nat} {rows : List (List AV)} {h' : List Ent} (ho : o.op = .call { callee := .builtin .clear, args := #[x], argTypes := #[t] }) (hd : o.dst = none)
    (hx : evA s x = some (.v (.slice (some ⟨g, k * sz, none⟩) m q))) (ht : f2 T.elm t = some (e, sz, bt)) (hz : f2 T.zer e = some z) (hzs : z.cells.size = sz) (hz1 : z.cells.toList.all (fun v => v.oneCell') = true)
    (hp : Repl h (.rw (.slice (some ⟨g, 0, none⟩) n c) E sz rows) (.rw (.slice (some ⟨g, 0, none⟩) k c) E sz (rows.take k)) h') (hk : k + m = rows.length) (hm0 : 0 < m) (hmd : md g) (hK : K s h') : AOp P N o md s h K := fun B w S a hs Kr Qr hkk => by
  obtain ⟨j, hund, hj, hjs, hjb, hne⟩ := T.elm_at ht
  have hzi := zOk_at T.zerOk hz
  obtain ⟨i, hi, hiz⟩ := Option.map_eq_some_iff.1 hzi
  have hmem : Ent.rw (.slice (some ⟨g, 0, none⟩) n c) E sz rows ∈ h := by obtain ⟨p, q, rfl, _⟩ := hp.split; simp
  obtain ⟨xs, hown, hr, hlr⟩ := hs.heap.ent _ hmem
  rcases hown.2 with ⟨e0, _⟩ | ⟨g', cap, cur, e0, hb0, hg, hcap, hml, hsz, htk⟩
  · simp at e0
  simp at e0
  obtain ⟨rfl, hlen, rfl⟩ := e0
  have hzl : (Builtin.zeroCells z.cells m).toList.length = m * sz := by simp [Builtin.zeroCells, hzs]
  have hones : ∀ v ∈ (Builtin.zeroCells z.cells m).toList, v.oneCell' = true := fun v hv => by
    simp only [Builtin.zeroCells, Array.toList_map, List.mem_map, Array.toList_range, List.mem_range] at hv
    obtain ⟨u, hu, rfl⟩ := hv
    have h0 : 0 < z.cells.size := by rcases Nat.eq_zero_or_pos z.cells.size with h0 | h0; rw [h0] at hu; simp at hu; exact h0
    have hlt : u % z.cells.size < z.cells.size := Nat.mod_lt _ h0
    rw [getElem!_pos z.cells _ hlt]
    exact List.all_eq_true.1 hz1 _ (by simp)
  have hfit : k * sz + m * sz ≤ cur.size := by
    rw [← Nat.add_mul, hk, hsz]; exact Nat.mul_le_mul_right _ hcap
  have hst := run_storeCells_at P g (k * sz) E (Builtin.zeroCells z.cells m).toList 0 cur w hg (by rw [hzl]; omega) hones
  simp only [Nat.add_zero] at hst
  generalize hnew : (cur.toList.take (k * sz) ++ (Builtin.zeroCells z.cells m).toList ++ cur.toList.drop (k * sz + (Builtin.zeroCells z.cells m).toList.length)).toArray = new at *
  have hrun : (Builtin.clear_ #[t] o.type #[.slice (some ⟨g, k * sz, none⟩) m q]).run P w = .ok (.tuple #[]) (w.setRow g new) := by
    obtain ⟨m', rfl⟩ : ∃ m', m = m' + 1 := ⟨m - 1, by omega⟩
    have hzv : ∀ w, (zeroValue e).run P w = .ok z w := fun w => by simp [zeroValue, typeInfo, hi, hiz]
    simp [Builtin.clear_, run_underlying hund, hzv, hst]
  have hrun2 : (execOp a.eval o).run P w = .ok (.value (.tuple #[])) (w.setRow g new) := by
    simp only [execOp, ho, resolve, List.map_toArray, List.map_cons, List.map_nil, hs.slots.lit hx]
    simp [invoke, builtin, hrun]
  unfold wpX
  rw [hd] at hkk
  rw [hrun2, Oper.uponIn_value, hd]
  have hgw := grown_setRow w g new
  have hkS : ∀ b, S b → (w.setRow g new).heap[b]? = w.heap[b]? := fun b hb => setRow_other w g b _ (fun e => hs.heap.off _ hmem g rfl (by rw [← e]; exact hb))
  have hnl : new.toList = cur.toList.take (k * sz) ++ (Builtin.zeroCells z.cells m).toList ++ cur.toList.drop (k * sz + (Builtin.zeroCells z.cells m).toList.length) := by rw [← hnew]
  have hkr : (rows.take k).length = k := by simp; omega
  have hxl := hown.1
  have hks : k * sz ≤ rows.length * sz := Nat.mul_le_mul_right _ (by omega)
  refine hkk _ _ S _ _ hK ((hs.repl hp (.of hgw (by simp [Ent.blk, Value.ownBlock])) ⟨xs.take (k * sz), ⟨?_, .inr ⟨g, c, new, by rw [hkr], hb0, setRow_heap w g _ _ E _ hg, by rw [hkr]; omega, hml, ?_, ?_⟩⟩, ?_, ?_⟩ (fun g' hg' => .inl hg')).putNone) ⟨by simp, fun b hb hnb => setRow_other w g b _ (fun e => hnb (by rw [e]; exact hmd)), fun _ h => h⟩
  · rw [hkr, List.length_take, hxl]; omega
  · rw [← Array.length_toList, hnl, ← hsz]
    simp only [List.length_append, List.length_take, List.length_drop, Array.length_toList, hzl]
    omega
  · rw [hnl, hkr, ← htk, List.take_take, List.append_assoc, List.take_append_of_le_length (by simp; omega), List.take_take]
    congr 1
    omega
  · have e := flatten_take (k := k) hlr (by omega)
    rw [e]
    exact (hr.take _).mono (fun _ h => h) hkS
  · intro r hr'
    exact hlr r (List.mem_of_mem_take hr')
end
end Go.Tl
