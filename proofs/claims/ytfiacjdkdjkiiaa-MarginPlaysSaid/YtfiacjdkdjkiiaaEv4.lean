/- The machine for closed calls: operations that make memory and write it, all of them. -/
import Derived.Test.YtfiacjdkdjkiiaaEv3
namespace Go.Ev
open Go Go.RowKit Go.Tl
set_option linter.unusedVariables false
set_option linter.unusedSimpArgs false
noncomputable section
theorem rows_flat {ρ : Nat → Rb} {D : Nat → Prop} : ∀ {xs vs : List Value}, VRs ρ D xs vs → VRs ρ D (xs.map cellsL).flatten (vs.map fun v => v.cells.toList).flatten
  | [], vs, h => by
    have := h.1
    cases vs with
    | nil => exact .nil
    | cons v vs => simp at this
  | x :: xs, vs, h => by
    cases vs with
    | nil => have := h.1; simp at this
    | cons v vs =>
      simp only [List.map_cons, List.flatten_cons]
      have h0 : VR ρ D x v := h.2 0 x v rfl rfl
      have h1 : VRs ρ D xs vs := ⟨by have := h.1; simpa using this, fun j a b ha hb => h.2 (j + 1) a b (by simpa using ha) (by simpa using hb)⟩
      rw [cells_toList]
      exact h0.cells.append (rows_flat h1)
theorem findN_run {ρ : Nat → Rb} {D : Nat → Prop} {n : Int} : ∀ {es : List (Value × Value × Nat)} {tes : List MapEntry} (h : ME ρ D es tes) {j i : Nat}, findN n es j = some i → j ≤ i ∧ tes.findIdx? (fun e => (e.born : Int) == n) = some (i - j) ∧ ∃ e, tes[i - j]? = some e
  | [], tes, h, j, i, hf => by simp [findN] at hf
  | (k, v, b) :: es, tes, h, j, i, hf => by
    cases h with
    | @cons _ _ _ e _ tes hk hn hv h =>
      simp only [findN] at hf
      cases hb : decide ((b : Int) = n) with
      | true =>
        rw [hb] at hf
        simp at hf
        subst hf
        have : (e.born : Int) = n := by rw [hn]; exact of_decide_eq_true hb
        refine ⟨Nat.le_refl _, ?_, ?_⟩
        · simp [List.findIdx?_cons, this]
        · simp
      | false =>
        rw [hb] at hf
        simp at hf
        obtain ⟨h1, h2, e', h3⟩ := findN_run h hf
        have hne : ¬ (e.born : Int) = n := by rw [hn]; exact of_decide_eq_false hb
        refine ⟨by omega, ?_, ?_⟩
        · have : i - j = i - (j + 1) + 1 := by omega
          rw [this]
          simp [List.findIdx?_cons, hne, h2]
        · have : i - j = i - (j + 1) + 1 := by omega
          rw [this]
          exact ⟨e', by simpa using h3⟩
theorem same_key {kk : Option (List Bool)} {kv : Value} (hko : keyOk kk kv = true) : Instr.sameBits 10000 kv kv = true := by
  cases kv with
  | agg cs =>
    cases kk with
    | none => simp [keyOk] at hko
    | some ks =>
      simp only [Instr.sameBits, beq_self_eq_true, Bool.true_and, List.all_eq_true]
      intro q hq
      obtain ⟨q1, hq1, rfl⟩ := List.getElem_of_mem hq
      simp only [List.getElem_zip]
      have hlt : q1 < cs.toList.length := by simp at hq1 ⊢; omega
      have := kOk_cell hko cs.toList[q1] (List.getElem_mem hlt)
      rcases this with ⟨n, e⟩ | ⟨b, e⟩ <;> rw [e] <;> simp [Instr.sameBits]
  | int q n => simp [Instr.sameBits]
  | _ => simp [keyOk] at hko
theorem ME.at {ρ : Nat → Rb} {D : Nat → Prop} {es : List (Value × Value × Nat)} {tes : List MapEntry} (h : ME ρ D es tes) : ∀ {j : Nat} {k x : Value} {n : Nat} {e : MapEntry}, es[j]? = some (k, x, n) → tes[j]? = some e → e.key = k ∧ e.born = n := by
  induction h with
  | nil => intro j k x n e he; simp at he
  | cons hk hn hv _ ih =>
    intro j k x n e he ht
    cases j with
    | zero => simp at he ht; obtain ⟨rfl, rfl, rfl⟩ := he; subst ht; exact ⟨hk, hn⟩
    | succ j => exact ih (by simpa using he) (by simpa using ht)
section
variable {P : Program} {T : TD} {M : Tre MP} (X : TM P T M) {ρ : Nat → Rb} {st st' : St} {s : Tre Value} {a : Act} {w : World} {w0 : W0} {o : Oper}
theorem put_mp (H : MS w0 ρ st.m w) {kk : Option (List Bool)} {es es' : List (Value × Value × Nat)} {ck ck' i : Nat} (hi : st.m.get i = some (.mp kk es ck)) (h : putO st i (.mp kk es' ck') = some st') {tes' : List MapEntry} (hm : ME ρ (dom st.m) es' tes') (hk : ∀ e ∈ es', keyOk kk e.1 = true) :
    MS w0 ρ st'.m (w.putObj (ρ i).b (.map tes'.toArray ck')) ∧ Le ρ st.m ρ st'.m := by
  obtain ⟨tes, h1, _⟩ := H.obj i _ hi
  have hlt := (Array.getElem?_eq_some_iff.1 h1).1
  exact H.put hi rfl (putO_spec h) rfl rfl rfl (by simp) (fun b hb hne => World.putObj_heap_other hne) (fun hd => ⟨tes', World.putObj_heap_same hlt, hm.mono (fun j hj => ⟨hd j hj, rfl⟩), hk⟩)
theorem flat_len {sz : Nat} : ∀ {l : List (List Value)}, (∀ r ∈ l, r.length = sz) → l.flatten.length = l.length * sz
  | [], _ => by simp
  | r :: l, h => by
    rw [List.flatten_cons, List.length_append, flat_len (fun r hr => h r (List.mem_cons_of_mem _ hr)), h r List.mem_cons_self, List.length_cons, Nat.add_mul]
    omega
include X
theorem evM_run {v : Value} (h : evM T M st s o.op = some (v, st')) (H : MS w0 ρ st.m w) (hs : SR ρ (dom st.m) s a.tmps) : HR P w0 ρ st ((execOp a.eval o).run P w) v st' := by
  cases ho : o.op <;> rw [ho] at h <;> simp only [evM, reduceCtorEq] at h
  case alloc t =>
    unfold eMalloc at h
    split at h
    · cases h
    rename_i z hz
    cases hb : Nat.ble (cellsL z).length 1000000 with
    | false => rw [hb] at h; simp at h
    | true =>
      rw [hb] at h
      simp only [cond_true] at h
      obtain ⟨r, hr, e⟩ := Option.map_eq_some_iff.1 h
      cases e
      have hle := Nat.le_of_ble_eq_true hb
      obtain ⟨i, hi, hiz⟩ := X.zer_at hz
      obtain ⟨g1, g2, g3⟩ := new_cl H (κ := (cellsL z).length) (tcs := z.cells) hr (by rw [cells_toList]; exact .sc (X.zer_cells hz)) (by omega) (by simp) (by unfold maxLen; omega)
      refine ⟨_, .pointer (some ⟨w.heap.size, 0, none⟩), _, _, by simp [execOp, ho, Instr.alloc, zeroValue, typeInfo, hi, hiz, newVar, newRow], .inl rfl, g1, g2, ?_⟩
      have := VR.ptr (ρ := upd ρ r.1 ⟨w.heap.size, (cellsL z).length, 1⟩) (o := 0) g3
      rwa [upd_same] at this
  case box t x =>
    unfold eMbox at h
    split at h
    · cases h
    rename_i v' hv
    cases hb : Nat.ble (cellsL v').length 1000000 with
    | false => rw [hb] at h; simp at h
    | true =>
      rw [hb] at h
      simp only [cond_true] at h
      obtain ⟨r, hr, e⟩ := Option.map_eq_some_iff.1 h
      cases e
      have hle := Nat.le_of_ble_eq_true hb
      obtain ⟨g1, g2, g3⟩ := new_cl H (κ := (cellsL v').length) (tcs := (a.eval x).cells) hr (by rw [cells_toList]; exact (lk_eval hs hv).cells) (by omega) (by simp) (by unfold maxLen; omega)
      refine ⟨_, .pointer (some ⟨w.heap.size, 0, none⟩), _, _, by simp [execOp, ho, Instr.box, newVar, newRow], .inl rfl, g1, g2, ?_⟩
      have := VR.ptr (ρ := upd ρ r.1 ⟨w.heap.size, (cellsL v').length, 1⟩) (o := 0) g3
      rwa [upd_same] at this
  case buildSlice t len parts =>
    unfold eMbs at h
    split at h
    · cases h
    rename_i e sz bt ht
    obtain ⟨j, hund, hj, hjs, hjb, hne⟩ := X.elm_at ht
    split at h
    · cases h
    rename_i z hz
    obtain ⟨i0, hi0, hiz⟩ := X.zer_at hz
    rw [hj] at hi0
    simp at hi0
    subst hi0
    split at h
    · cases h
    rename_i ps hps
    cases hb : (idxB 0 ps && Nat.beq ps.length len && ps.all (fun p => Nat.beq (cellsL p.2).length sz) && Nat.ble (len * sz) 1000000) with
    | false => rw [hb] at h; simp at h
    | true =>
      rw [hb] at h
      simp only [Bool.and_eq_true] at hb
      obtain ⟨⟨⟨b1, b2⟩, b3⟩, b4⟩ := hb
      simp only [cond_true] at h
      obtain ⟨r, hr, e0⟩ := Option.map_eq_some_iff.1 h
      cases e0
      have b2 := Nat.eq_of_beq_eq_true b2
      have b4 := Nat.le_of_ble_eq_true b4
      obtain ⟨hp1, hp2⟩ := lkp_eval hs hps
      have hmap : (parts.map fun p => (p.1, a.eval p.2)).toList = parts.toList.map fun p => (p.1, a.eval p.2) := by simp
      have htl : (parts.toList.map fun p => (p.1, a.eval p.2)) = idxs 0 ((parts.toList.map fun p => (p.1, a.eval p.2)).map (·.2)) := by
        have e1 := idxB_idxs b1
        have : ∀ (k : Nat) (a b : List (Nat × Value)), a.map (·.1) = b.map (·.1) → a = idxs k (a.map (·.2)) → b = idxs k (b.map (·.2)) := by
          intro k a
          induction a generalizing k with
          | nil => intro b hab _; cases b with
            | nil => rfl
            | cons b bs => simp at hab
          | cons x a ih => intro b hab ha; cases b with
            | nil => simp at hab
            | cons y b =>
              simp only [List.map_cons, List.cons.injEq, idxs] at hab ha ⊢
              refine ⟨?_, ih (k + 1) b hab.2 ha.2⟩
              have h1 : x.1 = k := by rw [ha.1]
              exact Prod.ext (hab.1.symm.trans h1) rfl
        exact this 0 _ _ hp1 e1
      generalize hus : (parts.toList.map fun p => (p.1, a.eval p.2)).map (·.2) = us at htl hp2
      have hul : us.length = len := by rw [← hp2.1]; simpa using b2
      have hone : ∀ u ∈ us, u.cells.size = sz := fun u hu => by
        obtain ⟨q, hq, rfl⟩ := List.getElem_of_mem hu
        have hq' : q < (ps.map (·.2)).length := by rw [hp2.1]; exact hq
        have hr := hp2.2 q _ _ (List.getElem?_eq_getElem hq') (List.getElem?_eq_getElem hq)
        have h1 := hr.cells.1
        have h2 : (cellsL (ps.map (·.2))[q]).length = sz := by
          simp only [List.getElem_map]
          exact Nat.eq_of_beq_eq_true (List.all_eq_true.1 b3 _ (List.getElem_mem _))
        rw [← Array.length_toList, cells_toList, ← h1, h2]
      obtain ⟨cells, hfill, hcells⟩ := fill_rows sz us 0 [] ((Array.range (len * sz)).map ((if len * sz = 0 then #[] else z.cells)[· % (if len * sz = 0 then #[] else z.cells).size]!)) (by simp) hone (by simp) (by simp [hul])
      have hrun : (execOp a.eval o).run P w = .ok (.value (.slice (some ⟨w.heap.size, 0, none⟩) len len)) (w.alloc (.cells cells e)) := by
        have hmap' : (Array.map (fun x => match x with | (i, x) => (i, a.eval x)) parts) = (parts.map fun p => (p.1, a.eval p.2)) := rfl
        by_cases h0 : len * sz = 0
        · rw [if_pos h0] at hfill
          simp only [execOp, ho, hmap', Instr.buildSlice, Sem.run_bind, run_underlying hund, Result.andThen_ok, run_sizeOf' hj, hjs, if_neg (show ¬ len * sz > 2 ^ 24 by omega), if_pos h0, Sem.run_pure, hmap, htl, hfill]
          simp [newRow]
        · rw [if_neg h0] at hfill
          simp only [execOp, ho, hmap', Instr.buildSlice, Sem.run_bind, run_underlying hund, Result.andThen_ok, run_sizeOf' hj, hjs, if_neg (show ¬ len * sz > 2 ^ 24 by omega), if_neg h0, Sem.run_pure, hmap, htl, zeroValue, typeInfo, run_program, hj, hiz, hfill]
          simp [newRow]
      have hflat : VRs ρ (dom st.m) (ps.map fun p => cellsL p.2).flatten cells.toList := by
        rw [hcells]
        have := rows_flat hp2
        simpa [Function.comp_def] using this
      have hfl : (ps.map fun p => cellsL p.2).flatten.length = len * sz := by
        rw [flat_len (sz := sz) (fun r hr => by
          obtain ⟨p, hp, rfl⟩ := List.mem_map.1 hr
          exact Nat.eq_of_beq_eq_true (List.all_eq_true.1 b3 p hp))]
        simp [b2]
      have hlen : len ≤ 1000000 := by
        have : len * 1 ≤ len * sz := Nat.mul_le_mul_left _ (by omega)
        omega
      obtain ⟨g1, g2, g3⟩ := new_cl H (κ := len) (tcs := cells) hr hflat (by omega) hfl (by unfold maxLen; omega)
      refine ⟨_, _, _, _, hrun, .inl rfl, g1, g2, ?_⟩
      have := VR.sl (ρ := upd ρ r.1 ⟨w.heap.size, len, sz⟩) (D := dom r.2.m) (i := r.1) (o := 0) (l := 0) (n := len) g3 (by rw [upd_same]; show 0 < sz; omega) (by simp) (by rw [upd_same]; show 0 + len ≤ len; omega)
      rw [upd_same] at this
      exact this
  case makeSlice t x y =>
    unfold eMms at h
    split at h
    · rename_i q n hx
      split at h
      · rename_i q' n' hy
        split at h
        · cases h
        rename_i e sz bt ht
        obtain ⟨j, hund, hj, hjs, hjb, hne⟩ := X.elm_at ht
        split at h
        · cases h
        rename_i z hz
        obtain ⟨i0, hi0, hiz⟩ := X.zer_at hz
        rw [hj] at hi0
        simp at hi0
        subst hi0
        cases hb : (Nat.beq n n' && Nat.ble n 1000000 && Nat.ble bt 1000 && Nat.beq (cellsL z).length sz) with
        | false => rw [hb] at h; simp at h
        | true =>
          rw [hb] at h
          simp only [Bool.and_eq_true] at hb
          obtain ⟨⟨⟨b1, b2⟩, b3⟩, b4⟩ := hb
          simp only [cond_true] at h
          obtain ⟨r, hr, e0⟩ := Option.map_eq_some_iff.1 h
          cases e0
          have b1 := Nat.eq_of_beq_eq_true b1
          have b2 := Nat.le_of_ble_eq_true b2
          have b3 := Nat.le_of_ble_eq_true b3
          have b4 := Nat.eq_of_beq_eq_true b4
          subst b1
          have ex := (lk_eval hs hx).scal rfl
          have ey := (lk_eval hs hy).scal rfl
          have hbt2 : (j.bytes : Int) * (n : Int) ≤ 281474976710656 := by
            rw [hjb]
            have : bt * n ≤ 1000 * 1000000 := Nat.mul_le_mul b3 b2
            rw [← Int.natCast_mul]
            omega
          have hrun := run_make (P := P) w t e j z hund hj hiz q q' n n (by omega) (by omega) hbt2 (by omega)
          simp only [Int.toNat_natCast, hjs] at hrun
          have hzsz : z.cells.size = sz := by rw [← Array.length_toList, cells_toList]; exact b4
          have hmc : (madeCells z.cells (n * sz)).toList = (List.replicate n (cellsL z)).flatten := by
            apply List.ext_getElem?
            intro p
            have hfl : (List.replicate n (cellsL z)).flatten.length = n * sz := by rw [flat_len (sz := sz) (fun r hr => by rw [(List.mem_replicate.1 hr).2]; exact b4)]; simp
            rcases Nat.lt_or_ge p (n * sz) with hp | hp
            · have hsz : 0 < sz := by omega
              have hk : p / sz < n := (Nat.div_lt_iff_lt_mul hsz).2 hp
              have hm : p % sz < sz := Nat.mod_lt _ hsz
              have e2 : p / sz * sz + p % sz = p := by rw [Nat.mul_comm]; exact Nat.div_add_mod p sz
              have key : ∀ (n q r : Nat), q < n → r < sz → (List.replicate n (cellsL z)).flatten[q * sz + r]? = (cellsL z)[r]? := by
                intro n
                induction n with
                | zero => intro q r hq; omega
                | succ n ih =>
                  intro q r hq hr
                  rw [List.replicate_succ, List.flatten_cons]
                  cases q with
                  | zero => rw [List.getElem?_append_left (by rw [b4]; omega)]; simp
                  | succ q =>
                    have e3 : (q + 1) * sz + r = sz + (q * sz + r) := by rw [Nat.add_mul]; omega
                    rw [e3, List.getElem?_append_right (by rw [b4]; omega), b4, Nat.add_sub_cancel_left]
                    exact ih q r (by omega) hr
              have h1 := key n (p / sz) (p % sz) hk hm
              rw [e2] at h1
              rw [h1]
              simp only [madeCells, Array.getElem?_toList]
              rw [← cells_toList]
              have hms : p % sz < z.cells.size := by rw [hzsz]; exact hm
              simp only [hp, hzsz, Array.getElem?_map, Array.getElem?_range, if_pos, Option.map_some, Array.getElem?_toList]
              rw [getElem!_pos z.cells (p % sz) hms, Array.getElem?_eq_getElem hms]
            · rw [List.getElem?_eq_none (l := (List.replicate n (cellsL z)).flatten) (by rw [hfl]; exact hp), List.getElem?_eq_none (by simp [madeCells]; exact hp)]
          obtain ⟨g1, g2, g3⟩ := new_cl H (κ := n) (tcs := madeCells z.cells (n * sz)) hr (by
            rw [hmc]
            refine .sc (List.all_eq_true.2 fun c hc => ?_)
            obtain ⟨l, hl, hcl⟩ := List.mem_flatten.1 hc
            rw [(List.mem_replicate.1 hl).2] at hcl
            exact List.all_eq_true.1 (X.zer_cells hz) c hcl) (by omega) (by rw [flat_len (sz := sz) (fun r hr => by rw [(List.mem_replicate.1 hr).2]; exact b4)]; simp) (by unfold maxLen; omega)
          refine ⟨_, .slice (some ⟨w.heap.size, 0, none⟩) n n, _, .value (.slice (some ⟨w.heap.size, 0, none⟩) n n), ?_, .inl rfl, g1, g2, ?_⟩
          · simp only [execOp, ho, ex, ey, Sem.run_bind]
            simp only [Int.ofNat_eq_natCast]
            rw [hrun]
            rfl
          · have := VR.sl (ρ := upd ρ r.1 ⟨w.heap.size, n, sz⟩) (D := dom r.2.m) (i := r.1) (o := 0) (l := 0) (n := n) g3 (by rw [upd_same]; show 0 < sz; omega) (by simp) (by rw [upd_same]; show 0 + n ≤ n; omega)
            rw [upd_same] at this
            exact this
      · cases h
    · cases h
  case makeMap t rs =>
    cases rs with
    | some x => simp [eMmm] at h
    | none =>
      simp only [eMmm] at h
      split at h
      · cases h
      rename_i p hp
      obtain ⟨r, hr, e0⟩ := Option.map_eq_some_iff.1 h
      cases e0
      obtain ⟨e1, h1, h2⟩ := newO_spec hr
      have hd : dom r.2.m r.1 := (dom_set h2 _).2 (.inr e1)
      rw [← e1] at h1 h2
      obtain ⟨g1, g2⟩ := H.new (x := .map #[] 0) (κ := 0) (sz := 0) h1 h2 (fun hLe => ⟨[], by rw [upd_same]; show (w.alloc _).heap[w.heap.size]? = _; rw [heap_alloc_new], .nil, fun e he => by cases he⟩)
      refine ⟨_, .map (some w.heap.size), _, _, by simp [execOp, ho, Instr.makeMap], .inl rfl, g1, g2, ?_⟩
      have := VR.mp (ρ := upd ρ r.1 ⟨w.heap.size, 0, 0⟩) hd
      rwa [upd_same] at this
  case store t x y =>
    unfold eMst at h
    split at h
    · rename_i i off hx
      split at h
      · cases h
      rename_i v' hv
      split at h
      · cases h
      rename_i n ag ht
      split at h
      · rename_i T' sz ex cs hmi
        cases hb : (Nat.beq (cellsL v').length n && Nat.ble (off + n) cs.length && (cellsL v').all oneB) with
        | false => rw [hb] at h; simp at h
        | true =>
          rw [hb] at h
          simp only [Bool.and_eq_true] at hb
          obtain ⟨⟨b1, b2⟩, b3⟩ := hb
          simp only [cond_true] at h
          obtain ⟨r, hr, e0⟩ := Option.map_eq_some_iff.1 h
          cases e0
          have b1 := Nat.eq_of_beq_eq_true b1
          have b2 := Nat.le_of_ble_eq_true b2
          obtain ⟨j, d, hj, hjn, hne, hu, hd⟩ := X.siz_at ht
          have hvc := (lk_eval hs hv).cells
          obtain ⟨cur, g1, g2, g3, g4⟩ := put_cl H hmi hr hvc (by rw [b1]; exact b2)
          have hxv := lk_eval hs hx
          generalize hxe : a.eval x = xv at *
          cases hxv with
          | sc hc => simp [scB] at hc
          | ptr hD =>
            have hst := run_storeCells_at P (ρ i).b off T' (cellsL (a.eval y)) 0 cur w g1 (by simpa using g2) (hvc.ones b3)
            simp only [Nat.add_zero] at hst
            refine ⟨ρ, undef, _, .skip, ?_, .inr ⟨rfl, rfl⟩, g3, g4, undef_vr⟩
            have hsz : (a.eval y).cells.size = j.size := by rw [hjn, ← Array.length_toList, cells_toList, ← hvc.1, b1]
            simp only [execOp, ho, hxe, Instr.storeAt, Instr.sureAddr, storeVar, Sem.run_bind, Sem.run_pure, Result.andThen_ok, run_sizeOf' hj, hsz, ne_eq, not_true_eq_false, if_false, cells_toList, hst]
      · cases h
    · cases h
  case mapUpdate t x k y =>
    unfold eMmu at h
    split at h
    · rename_i i hx
      split at h
      · cases h
      rename_i kv hk
      split at h
      · cases h
      rename_i v' hv
      split at h
      · cases h
      rename_i p hp
      split at h
      · rename_i kk es ck hmi
        cases hc : (keyOk p.kk kv && kkq kk p.kk) with
        | false => rw [hc] at h; simp at h
        | true =>
          rw [hc] at h
          simp only [Bool.and_eq_true] at hc
          simp only [cond_true] at h
          obtain ⟨r, hr, e0⟩ := Option.map_eq_some_iff.1 h
          cases e0
          obtain ⟨tes, h1, h2, h3⟩ := H.obj i _ hmi
          obtain ⟨kt, vt, hm, hz1, hz, hchk, hfnd⟩ := X.mpOk t p hp
          have hkk := kkq_eq hc.2
          have ek := keyOk_val hc.1 (lk_eval hs hk)
          have hvv := lk_eval hs hv
          have hg := MapKept.run_getObj_map (P := P) h1
          have hf := hfnd kv tes w hc.1 (by rw [← hkk]; exact h2.keys h3)
          have hxv := lk_eval hs hx
          generalize hxe : a.eval x = xv at *
          cases hxv with
          | sc hc => simp [scB] at hc
          | mp hD =>
            rcases find_rel (k := kv) h2 0 with ⟨f1, f2⟩ | ⟨i', x', n', e', f1, f2, f3, f4, f5, f6, f7⟩
            · have hset : setE es kv v' ck = (es ++ [(kv, v', ck)], ck + 1) := by simp only [setE, f1]
              rw [hset] at hr
              rw [f2] at hf
              obtain ⟨g1, g2⟩ := put_mp H hmi hr (tes' := tes ++ [{ key := kv, val := a.eval y, born := ck }]) (h2.push rfl rfl hvv) (fun e he => by
                rcases List.mem_append.1 he with he | he
                · exact h3 e he
                · rw [List.mem_singleton] at he; subst he; rw [hkk]; exact hc.1)
              refine ⟨ρ, undef, _, .skip, ?_, .inr ⟨rfl, rfl⟩, g1, g2, undef_vr⟩
              simp [execOp, ho, hxe, ek, Instr.mapUpdate, run_underlying hm, hg, hchk _ _ _ hc.1, hf, MapKept.run_setObj_map _ h1, Result.andThen, World.putObj]
            · have hkeq : e'.key = kv := ((keyEq_iff (kk := p.kk) hc.1 (by rw [← hkk]; exact h3 _ (List.mem_of_getElem? f3))).1 f5).symm
              have hset : setE es kv v' ck = (es.set i' (kv, v', n'), ck) := by simp only [setE, f1, Nat.zero_add]
              rw [hset] at hr
              rw [f2, Nat.zero_add] at hf
              obtain ⟨g1, g2⟩ := put_mp H hmi hr (tes' := tes.set i' { e' with key := kv, val := a.eval y }) (h2.set rfl f7 hvv) (fun e he => by
                rcases List.mem_or_eq_of_mem_set he with he | he
                · exact h3 e he
                · subst he; rw [hkk]; exact hc.1)
              have hbits : Instr.sameBits 10000 kv kv = true := same_key hc.1
              refine ⟨ρ, undef, _, .skip, ?_, .inr ⟨rfl, rfl⟩, g1, g2, undef_vr⟩
              have hmod : (tes.modify i' fun e => { e with key := kv, val := a.eval y }) = tes.set i' { e' with key := kv, val := a.eval y } := by
                apply List.ext_getElem?
                intro j
                rw [List.getElem?_modify]
                simp only [List.getElem?_set]
                by_cases hj : i' = j
                · subst hj
                  obtain ⟨this, e5⟩ := List.getElem?_eq_some_iff.1 f4
                  simp [f4, this, e5]
                · simp [hj]
              simp [execOp, ho, hxe, ek, Instr.mapUpdate, run_underlying hm, hg, hchk _ _ _ hc.1, hf, f4, hkeq, Instr.keyThatStays, hbits, MapKept.run_setObj_map _ h1, Result.andThen, World.putObj, hmod]
      · cases h
    · cases h
  case mapEntry t x k =>
    unfold eMme at h
    split at h
    · rename_i i hx
      split at h
      · cases h
      rename_i kv hk
      split at h
      · cases h
      rename_i p hp
      split at h
      · rename_i kk es ck hmi
        cases hc : (keyOk p.kk kv && kkq kk p.kk) with
        | false => rw [hc] at h; simp at h
        | true =>
          rw [hc] at h
          simp only [Bool.and_eq_true] at hc
          simp only [cond_true] at h
          obtain ⟨tes, h1, h2, h3⟩ := H.obj i _ hmi
          obtain ⟨kt, vt, hm, hz1, hz, hchk, hfnd⟩ := X.mpOk t p hp
          have hkk := kkq_eq hc.2
          have ek := keyOk_val hc.1 (lk_eval hs hk)
          have hg := MapKept.run_getObj_map (P := P) h1
          have hf := hfnd kv tes w hc.1 (by rw [← hkk]; exact h2.keys h3)
          have hxv := lk_eval hs hx
          generalize hxe : a.eval x = xv at *
          cases hxv with
          | sc hc => simp [scB] at hc
          | mp hD =>
            rcases find_rel (k := kv) h2 0 with ⟨f1, f2⟩ | ⟨i', x', n', e', f1, f2, f3, f4, f5, f6, f7⟩
            · rw [f1] at h
              simp only at h
              obtain ⟨r, hr, e0⟩ := Option.map_eq_some_iff.1 h
              cases e0
              rw [f2] at hf
              have hzv : ∀ {ρ D}, VR ρ D p.z p.z := fun {ρ D} => .ofSc hz1
              obtain ⟨g1, g2⟩ := put_mp H hmi hr (tes' := tes ++ [{ key := kv, val := p.z, born := ck }]) (h2.push rfl rfl hzv) (fun e he => by
                rcases List.mem_append.1 he with he | he
                · exact h3 e he
                · rw [List.mem_singleton] at he; subst he; rw [hkk]; exact hc.1)
              refine ⟨ρ, .tuple #[p.z, .int .i64 ck], _, _, ?_, .inl rfl, g1, g2, .tuL (.cons hzv (.cons (.sc rfl) .nil))⟩
              simp [execOp, ho, hxe, ek, Instr.mapEntry, run_underlying hm, hg, hchk _ _ _ hc.1, hf, hz, MapKept.run_setObj_map _ h1, Result.andThen, World.putObj, goInt]
            · have hkeq : e'.key = kv := ((keyEq_iff (kk := p.kk) hc.1 (by rw [← hkk]; exact h3 _ (List.mem_of_getElem? f3))).1 f5).symm
              rw [f1] at h
              simp only [Option.some.injEq, Prod.mk.injEq] at h
              obtain ⟨rfl, rfl⟩ := h
              rw [f2, Nat.zero_add] at hf
              have hbits : Instr.sameBits 10000 kv kv = true := same_key hc.1
              have hmod : (tes.modify i' fun e => { e with key := kv }) = tes := by
                apply List.ext_getElem?
                intro j
                rw [List.getElem?_modify]
                by_cases hj : i' = j
                · subst hj
                  rw [f4]
                  simp [← hkeq]
                · simp [hj]
              refine ⟨ρ, .tuple #[e'.val, .int .i64 n'], w, .value (.tuple #[e'.val, .int .i64 n']), ?_, .inl rfl, H, .refl, .tuL (.cons f6 (.cons (.sc rfl) .nil))⟩
              have hself : (w.heap.setIfInBounds (ρ i).b (.map tes.toArray ck)) = w.heap := by
                apply Array.ext_getElem?
                intro j
                rw [Array.getElem?_setIfInBounds]
                split
                · rename_i e
                  subst e
                  have := (Array.getElem?_eq_some_iff.1 h1).1
                  rw [h1]; simp [this]
                · rfl
              simp [execOp, ho, hxe, ek, Instr.mapEntry, run_underlying hm, hg, hchk _ _ _ hc.1, hf, f4, hkeq, Instr.keyThatStays, hbits, MapKept.run_setObj_map _ h1, Result.andThen, hmod, hself, goInt, f7]
      · cases h
    · cases h
  case entryStore t x k y =>
    unfold eMes at h
    split at h
    · rename_i i hx
      split at h
      · rename_i n hk
        split at h
        · cases h
        rename_i v' hv
        split at h
        · rename_i kk es ck hmi
          split at h
          · cases h
          rename_i j hj
          split at h
          · cases h
          rename_i k' x' b' hje
          obtain ⟨r, hr, e0⟩ := Option.map_eq_some_iff.1 h
          cases e0
          obtain ⟨tes, h1, h2, h3⟩ := H.obj i _ hmi
          obtain ⟨_, f2, e', f3⟩ := findN_run h2 hj
          rw [Nat.sub_zero] at f2 f3
          have ek := (lk_eval hs hk).scal rfl
          have hg := MapKept.run_getObj_map (P := P) h1
          have hxv := lk_eval hs hx
          have hvv := lk_eval hs hv
          generalize hxe : a.eval x = xv at *
          cases hxv with
          | sc hc => simp [scB] at hc
          | mp hD =>
            obtain ⟨q1, q2⟩ := h2.at hje f3
            obtain ⟨g1, g2⟩ := put_mp H hmi hr (tes' := tes.set j { e' with val := a.eval y }) (h2.set q1 q2 hvv) (fun e he => by
              rcases List.mem_or_eq_of_mem_set he with he | he
              · exact h3 e he
              · subst he; exact (h3 _ (List.mem_of_getElem? hje) : keyOk kk k' = true))
            refine ⟨ρ, undef, _, .skip, ?_, .inr ⟨rfl, rfl⟩, g1, g2, undef_vr⟩
            have hmod : (tes.modify j fun e => { e with val := a.eval y }) = tes.set j { e' with val := a.eval y } := by
              apply List.ext_getElem?
              intro q
              rw [List.getElem?_modify]
              simp only [List.getElem?_set]
              by_cases hq : j = q
              · subst hq
                obtain ⟨this, e5⟩ := List.getElem?_eq_some_iff.1 f3
                simp [f3, this, e5]
              · simp [hq]
            simp [execOp, ho, hxe, ek, Instr.entryStore, hg, asInt, asIntOf, f2, MapKept.run_setObj_map _ h1, Result.andThen, World.putObj, hmod]
        · cases h
      · cases h
    · cases h
  case call c =>
    obtain ⟨callee, xs, ts⟩ := c
    cases callee with
    | builtin b =>
      simp only [eMcall] at h
      split at h
      · rename_i x y hxy
        have hv := lks_eval hs hxy
        have hxs : xs.map a.eval = (xs.toList.map a.eval).toArray := by rw [← Array.toList_map]
        obtain ⟨xv, yv, e1, hx, hy⟩ := hv.two
        rw [e1] at hxs
        split at h
        · split at h
          · rename_i t t' hts
            cases hb : Nat.beq t t' with
            | false => rw [hb] at h; simp at h
            | true =>
              rw [hb] at h
              have := Nat.eq_of_beq_eq_true hb
              subst this
              simp only [cond_true] at h
              have hts' : ts = #[t, t] := by apply Array.ext'; simpa using hts
              subst hts'
              obtain ⟨ρ', tv, w', g0, g1, g2, g3⟩ := evApp_run X (ty := o.type) h H hx hy
              refine ⟨ρ', tv, w', .value tv, ?_, .inl rfl, g1, g2, g3⟩
              simp only [execOp, ho, resolve, Sem.run_bind, Sem.run_pure, Result.andThen_ok, invoke, builtin, hxs]
              rw [g0]
              rfl
          · cases h
        · split at h
          · rename_i t t' hts
            have hts' : ts = #[t, t'] := by apply Array.ext'; simpa using hts
            subst hts'
            obtain ⟨tv, w', g0, g1, g2, g3⟩ := evCopy_run X (t' := t') (ty := o.type) h H hx hy
            refine ⟨ρ, tv, w', .value tv, ?_, .inl rfl, g1, g2, g3⟩
            simp only [execOp, ho, resolve, Sem.run_bind, Sem.run_pure, Result.andThen_ok, invoke, builtin, hxs]
            rw [g0]
            rfl
          · cases h
        · cases h
      · rename_i x hxy
        have hv := lks_eval hs hxy
        have hxs : xs.map a.eval = (xs.toList.map a.eval).toArray := by rw [← Array.toList_map]
        obtain ⟨xv, e1, hx⟩ : ∃ v, xs.toList.map a.eval = [v] ∧ VR ρ (dom st.m) x v := by
          match hl : xs.toList.map a.eval, hv.1 with
          | [v], _ => exact ⟨v, rfl, hv.2 0 x v rfl (by rw [hl]; rfl)⟩
        rw [e1] at hxs
        split at h
        · split at h
          · rename_i t hts
            have hts' : ts = #[t] := by apply Array.ext'; simpa using hts
            subst hts'
            obtain ⟨tv, w', g0, g1, g2, g3⟩ := evClear_run X (ty := o.type) h H hx
            refine ⟨ρ, tv, w', .value tv, ?_, .inl rfl, g1, g2, g3⟩
            simp only [execOp, ho, resolve, Sem.run_bind, Sem.run_pure, Result.andThen_ok, invoke, builtin, hxs]
            rw [g0]
            rfl
          · cases h
        · cases h
      · cases h
    | value f => simp [eMcall] at h
    | invoke r mth => simp [eMcall] at h
end
end
end Go.Ev
