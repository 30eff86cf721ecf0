/- Operations that make or write memory, over plain trees. -/
import Derived.Test.YtilhflfbbfeakaaTl4
import Derived.Laws.CopyRow
import Derived.Laws.MakeOwn
import Derived.Laws.OwnMore
namespace Go.Tl
open Go Go.RowKit
set_option linter.unusedVariables false
set_option linter.unusedSimpArgs false

def cellsA : AV → List AV
  | .ag cs => cs
  | .v x => [.v x]
  | .t x => [.t x]
  | .tup vs => [.tup vs]
  | .elt sz n f k o => [.elt sz n f k o]
  | .fn g a b => [.fn g a b]
  | .rp v sz k o => [.rp v sz k o]
def oneA : AV → Bool
  | .ag _ => false
  | .v x => x.oneCell'
  | .t (.sc x) => x.oneCell'
  | .t (.sl _ _ _ _) => true
  | .tup _ => false
  | .elt _ _ _ _ _ => true
  | .fn _ _ _ => true
  | .rp _ _ _ _ => true
/-- no struct or array as one value -/
def okA : AV → Bool
  | .ag _ => true
  | y => oneA y
theorem oneA_one {w : World} {S : Nat → Prop} {y : AV} {v : Value} (h : VRel w S y v) (ho : oneA y = true) : v.oneCell' = true := by
  cases h with
  | v x => exact ho
  | t h => cases h with
    | sc => exact ho
    | sl => rfl
  | ag => simp [oneA] at ho
  | tup => simp [oneA] at ho
  | elt => rfl
  | fn => rfl
  | rp => rfl
theorem cells_one {v : Value} (h : v.oneCell' = true) : v.cells = #[v] := by cases v <;> simp_all [Value.cells, Value.oneCell']
theorem cellsA_rel {w : World} {S : Nat → Prop} {y : AV} {v : Value} (h : VRel w S y v) (ho : okA y = true) : VRels w S (cellsA y) v.cells.toList := by
  have one : oneA y = true → VRels w S (cellsA y) v.cells.toList := fun h1 => by
    rw [cells_one (oneA_one h h1)]
    have : cellsA y = [y] := by cases y <;> first | rfl | simp [oneA] at h1
    rw [this]
    exact .cons h .nil
  cases y with
  | ag cs =>
    cases h with
    | ag hl hh => exact ⟨hl, hh⟩
  | _ => exact one ho
theorem ones_rel {w : World} {S : Nat → Prop} {cs : List AV} {vs : List Value} (h : VRels w S cs vs) (ho : ∀ c ∈ cs, oneA c = true) : ∀ v ∈ vs, v.oneCell' = true := fun v hv => by
  obtain ⟨j, hj, rfl⟩ := List.getElem_of_mem hv
  have hj' : j < cs.length := by rw [h.1]; exact hj
  exact oneA_one (h.2 j cs[j] vs[j] (List.getElem?_eq_getElem hj') (List.getElem?_eq_getElem hj)) (ho _ (List.getElem_mem hj'))

def spA (cs : List AV) (off : Nat) (ys : List AV) : List AV := cs.take off ++ ys ++ cs.drop (off + ys.length)

section
variable {P : Program} {N : Nat} {o : Oper} {md : Nat → Prop} {s : Slots} {h : List Ent} {K : Slots → List Ent → Prop}

theorem upd_push {w w' : World} {S : Nat → Prop} (hs : w.heap.size ≤ w'.heap.size) (hw : ∀ b, b < w.heap.size → w'.heap[b]? = w.heap[b]?) : Upd w S w' S md := ⟨hs, fun b hb _ => hw b hb, fun _ h => h⟩
theorem alloc_old (w : World) (x : Obj) (b : Nat) (hb : b < w.heap.size) : (w.alloc x).heap[b]? = w.heap[b]? := Below.heap_alloc _ _ _ hb

theorem grw_alloc (w : World) (x : Obj) : Grw w (w.alloc x) (fun _ => False) := ⟨rfl, rfl, rfl, by simp, fun b hb _ => alloc_old w x b hb⟩

/-- a new variable -/
theorem aop_alloc (T : TT P) {t d : Nat} {z : Value} {cs : List AV} (ho : o.op = .alloc t) (hd : o.dst = some d) (hN : d < N) (hz : f2 T.zer t = some z) (hcs : z.cells.toList.map AV.v = cs)
    (hK : ∀ g, K ((d, .v (.pointer (some ⟨g, 0, none⟩))) :: s) (.cl g t cs :: h)) : AOp P N o md s h K := fun B w S a hs Kr Qr hk => by
  have h1 := zOk_at T.zerOk hz
  obtain ⟨i, hi, hiz⟩ := Option.map_eq_some_iff.1 h1
  have hrun : (execOp a.eval o).run P w = .ok (.value (.pointer (some ⟨w.heap.size, 0, none⟩))) (w.alloc (.cells z.cells t)) := by
    simp [execOp, ho, Instr.alloc, zeroValue, typeInfo, hi, hiz, newVar, newRow]
  unfold wpX
  rw [hd] at hk
  rw [hrun, Oper.uponIn_value, hd]
  have hold := fun b hb => alloc_old w (.cells z.cells t) b hb
  refine hk _ _ S _ _ (hK w.heap.size) ((hs.push (w' := w.alloc (.cells z.cells t)) (grw_alloc _ _) (e := .cl w.heap.size t cs) ⟨z.cells.toList, by rw [heap_alloc_new, Array.toArray_toList], by subst hcs; exact .lits _⟩ (fun g hg => by simp [Ent.blk] at hg; omega)).put (.v _) hN) (upd_push (by simp) hold)
/-- a new variable that holds a value -/
theorem aop_box {t d : Nat} {x : Operand} {y : AV} (ho : o.op = .box t x) (hx : evA s x = some y) (hok : okA y = true) (hd : o.dst = some d) (hN : d < N)
    (hK : ∀ g, K ((d, .v (.pointer (some ⟨g, 0, none⟩))) :: s) (.cl g t (cellsA y) :: h)) : AOp P N o md s h K := fun B w S a hs Kr Qr hk => by
  have hv := hs.slots.eval hx
  generalize hev : a.eval x = v at *
  have hrun : (execOp a.eval o).run P w = .ok (.value (.pointer (some ⟨w.heap.size, 0, none⟩))) (w.alloc (.cells v.cells t)) := by
    simp [execOp, ho, hev, Instr.box, newVar, newRow]
  unfold wpX
  rw [hd] at hk
  rw [hrun, Oper.uponIn_value, hd]
  have hr := cellsA_rel hv hok
  have hold := fun b hb => alloc_old w (.cells v.cells t) b hb
  refine hk _ _ S _ _ (hK w.heap.size) ((hs.push (w' := w.alloc (.cells v.cells t)) (grw_alloc _ _) (e := .cl w.heap.size t (cellsA y)) ⟨v.cells.toList, by rw [heap_alloc_new, Array.toArray_toList], hr.mono (fun _ h => h) (fun b hb => hold b (hs.lt b hb))⟩ (fun g hg => by simp [Ent.blk] at hg; omega)).put (.v _) hN) (upd_push (by simp) hold)
theorem grown_setRow (w : World) (g : Nat) (cs : Array Value) : w.grownBy (w.setRow g cs) (some g) := ⟨rfl, rfl, rfl, by simp, fun k _ hk => setRow_other w g k cs (fun e => hk (by rw [e]))⟩
/-- a variable is written, or a part of it -/
theorem aop_store (T : TT P) {t n g off : Nat} {ag : Bool} {x y : Operand} {u : AV} {T' : TypeId} {cs cs' : List AV} {h' : List Ent} (ho : o.op = .store t x y) (hx : evA s x = some (.v (.pointer (some ⟨g, off, none⟩)))) (hy : evA s y = some u)
    (ht : f2 T.siz t = some (n, ag)) (hok : okA u = true) (hone : (cellsA u).all oneA = true) (hn : (cellsA u).length = n) (hd : o.dst = none) (hp : Repl h (.cl g T' cs) (.cl g T' cs') h') (hl : off + n ≤ cs.length) (hcs : spA cs off (cellsA u) = cs') (hmd : md g)
    (hK : K s h') : AOp P N o md s h K := fun B w S a hs Kr Qr hk => by
  obtain ⟨j, d, hj, hjn, hne, hu, hd'⟩ := T.siz_at ht
  have hv := hs.slots.eval hy
  have hxl := hs.slots.lit hx
  generalize hev : a.eval y = v at *
  have hmem : Ent.cl g T' cs ∈ h := by obtain ⟨p, q, rfl, _⟩ := hp.split; simp
  obtain ⟨vs, hvs, hr⟩ := hs.heap.ent _ hmem
  have hc := cellsA_rel hv hok
  have hcl : v.cells.toList.length = n := by rw [← hc.1]; exact hn
  have hones := ones_rel hc (by simpa [List.all_eq_true] using hone)
  have hst := run_storeCells_at P g off T' v.cells.toList 0 vs.toArray w hvs (by have := hr.1; simp at hcl ⊢; omega) hones
  simp only [Nat.add_zero] at hst
  have hrun : (execOp a.eval o).run P w = .ok .skip (w.setRow g (vs.toArray.toList.take off ++ v.cells.toList ++ vs.toArray.toList.drop (off + v.cells.toList.length)).toArray) := by
    have hsz : v.cells.size = j.size := by rw [hjn, ← hcl]; simp
    have hst2 := hst
    simp at hst2
    simp [execOp, ho, hxl, hev, Instr.storeAt, Instr.sureAddr, storeVar, run_sizeOf' hj, hsz]
    rw [hst2]
    simp [hsz]
  unfold wpX
  rw [hd] at hk
  rw [hrun, Oper.uponIn_skip, hd]
  have hg := grown_setRow w g (vs.toArray.toList.take off ++ v.cells.toList ++ vs.toArray.toList.drop (off + v.cells.toList.length)).toArray
  have hkS : ∀ b, S b → (w.setRow g (vs.toArray.toList.take off ++ v.cells.toList ++ vs.toArray.toList.drop (off + v.cells.toList.length)).toArray).heap[b]? = w.heap[b]? := fun b hb => setRow_other w g b _ (fun e => hs.heap.off _ hmem g rfl (by rw [← e]; exact hb))
  refine hk _ _ S _ _ hK ((hs.repl hp (.of hg (by simp [Ent.blk])) ⟨_, setRow_heap w g _ _ T' _ hvs, ?_⟩ (fun g' hg' => .inl hg')).putNone) ⟨by simp, fun b hb hnb => setRow_other w g b _ (fun e => hnb (by rw [e]; exact hmd)), fun _ h => h⟩
  subst hcs
  have hll : (cellsA u).length = v.cells.toList.length := hc.1
  simp only [spA]
  rw [hll]
  exact ((hr.take off).append hc |>.append (hr.drop _)).mono (fun _ h => h) hkS

/-! slices that the call makes -/
theorem fold_set (off : Nat) : ∀ (l : List Value) (k : Nat) (cells : Array Value), off + k + l.length ≤ cells.size →
    ((l.zipIdx k).foldl (fun (cs : Array Value) (p : Value × Nat) => cs.setIfInBounds (off + p.2) p.1) cells).toList = cells.toList.take (off + k) ++ l ++ cells.toList.drop (off + k + l.length)
  | [], k, cells, h => by simp
  | v :: l, k, cells, h => by
    simp at h
    have hk : off + k < cells.size := by omega
    rw [List.zipIdx_cons, List.foldl_cons, fold_set off l (k + 1) _ (by simp; omega)]
    have e1 : (cells.setIfInBounds (off + k) v).toList = cells.toList.set (off + k) v := by simp
    rw [e1, show off + (k + 1) = off + k + 1 from rfl, List.take_succ_eq_append_getElem (by simpa using hk), List.take_set, List.drop_set]
    rw [if_pos (show off + k < off + k + 1 + l.length by omega)]
    simp only [List.length_cons, List.append_assoc, List.cons_append, List.nil_append]
    rw [show off + k + (l.length + 1) = off + k + 1 + l.length by omega]
    have e2 : (List.take (off + k) cells.toList).set (off + k) v = List.take (off + k) cells.toList := List.set_eq_of_length_le (by simp; omega)
    have e3 : (cells.toList.set (off + k) v)[off + k]'(by simpa using hk) = v := by simp
    rw [e2, e3]
def idxs {α : Type} : Nat → List α → List (Nat × α)
  | _, [] => []
  | k, x :: r => (k, x) :: idxs (k + 1) r
theorem fill_rows (sz : Nat) : ∀ (vs : List Value) (k : Nat) (pre : List Value) (cells : Array Value), pre.length = k * sz → (∀ v ∈ vs, v.cells.size = sz) → cells.toList.take (k * sz) = pre → cells.size = (k + vs.length) * sz →
    ∃ cells', Instr.fill (fun i => some (i * sz, sz)) cells (idxs k vs) = some cells' ∧ cells'.toList = pre ++ (vs.map fun v => v.cells.toList).flatten
  | [], k, pre, cells, hp, _, ht, hc => ⟨cells, rfl, by simp at hc; rw [← ht, List.take_of_length_le (by simp [hc])]; simp⟩
  | v :: vs, k, pre, cells, hp, hv, ht, hc => by
    have h1 := hv v (by simp)
    have hlen : (k + (v :: vs).length) * sz = k * sz + sz + vs.length * sz := by simp only [List.length_cons]; rw [← Nat.succ_mul, ← Nat.add_mul]; congr 1; omega
    have hfit : k * sz + v.cells.size ≤ cells.size := by rw [hc, hlen, h1]; omega
    have hf := fold_set (k * sz) v.cells.toList 0 cells (by simpa using hfit)
    have hne : ¬ (v.cells.size ≠ sz ∨ k * sz + v.cells.size > cells.size) := by omega
    have e0 : (Array.foldl (fun (cs : Array Value) (p : Value × Nat) => cs.setIfInBounds (k * sz + p.2) p.1) cells v.cells.zipIdx) = (v.cells.toList.zipIdx 0).foldl (fun (cs : Array Value) (p : Value × Nat) => cs.setIfInBounds (k * sz + p.2) p.1) cells := by
      rw [← Array.foldl_toList, Array.toList_zipIdx]
    obtain ⟨cells', h2, h3⟩ := fill_rows sz vs (k + 1) (pre ++ v.cells.toList) ((v.cells.toList.zipIdx 0).foldl (fun (cs : Array Value) (p : Value × Nat) => cs.setIfInBounds (k * sz + p.2) p.1) cells)
      (by simp [hp, h1, Nat.add_mul]) (fun u hu => hv u (by simp [hu])) (by
        rw [hf]
        simp only [Nat.add_zero]
        rw [ht, List.take_append_of_le_length (by simp [hp, h1, Nat.add_mul]), List.take_of_length_le (by simp [hp, h1, Nat.add_mul])])
      (by
        rw [← Array.length_toList, hf]
        have := hc
        simp [h1] at hfit ⊢
        rw [hlen] at hc
        rw [Nat.add_mul, Nat.add_mul]
        omega)
    refine ⟨cells', ?_, by rw [h3]; simp⟩
    simp only [idxs, Instr.fill]
    rw [e0]
    simp only [Bool.or_eq_true, decide_eq_true_eq]
    rw [if_neg hne]
    exact h2
theorem aop_buildSlice (T : TT P) {t len d e sz bt : Nat} {z : Value} {parts : Array (Nat × Operand)} {xs : List Operand} {ys : List AV} (ho : o.op = .buildSlice t len parts) (hd : o.dst = some d) (hN : d < N) (ht : f2 T.elm t = some (e, sz, bt)) (hz : f2 T.zer e = some z)
    (hp : parts.toList = idxs 0 xs) (hlen : xs.length = len) (hmax : len * sz ≤ 16777216) (hx : xs.map (evA s) = ys.map some) (hok : ys.all okA = true) (hsz : ys.all (fun y => Nat.beq (cellsA y).length sz) = true)
    (hK : ∀ g, K ((d, .v (.slice (some ⟨g, 0, none⟩) len len)) :: s) (.rw (.slice (some ⟨g, 0, none⟩) len len) e sz (ys.map cellsA) :: h)) : AOp P N o md s h K := fun B w S a hs Kr Qr hk => by
  obtain ⟨j, hu, hj, hjs, _, hne⟩ := T.elm_at ht
  have h1 := zOk_at T.zerOk hz
  obtain ⟨i, hi, hiz⟩ := Option.map_eq_some_iff.1 h1
  rw [hj] at hi
  simp at hi
  subst hi
  have hvs := hs.slots.evals hx
  have hlv : (xs.map a.eval).length = len := by simpa using hlen
  have hone : ∀ v ∈ xs.map a.eval, v.cells.size = sz := fun v hv => by
    obtain ⟨q, hq, rfl⟩ := List.getElem_of_mem hv
    have hq' : q < ys.length := by rw [hvs.1]; exact hq
    have hr := hvs.2 q ys[q] _ (List.getElem?_eq_getElem hq') (List.getElem?_eq_getElem hq)
    have h2 := (cellsA_rel hr (List.all_eq_true.1 hok _ (List.getElem_mem hq'))).1
    have h3 := Nat.eq_of_beq_eq_true (List.all_eq_true.1 hsz _ (List.getElem_mem hq'))
    have h4 := h2.symm.trans h3
    rwa [Array.length_toList] at h4
  have hmapp : (parts.map fun p => (p.1, a.eval p.2)).toList = idxs 0 (xs.map a.eval) := by
    rw [Array.toList_map, hp]
    clear hp hlen hx hvs hlv hone
    generalize 0 = k
    induction xs generalizing k with
    | nil => rfl
    | cons x xs ih => simp only [idxs, List.map_cons, ih]
  obtain ⟨cells, hfill, hcells⟩ := fill_rows sz (xs.map a.eval) 0 [] ((Array.range (len * sz)).map ((if len * sz = 0 then #[] else z.cells)[· % (if len * sz = 0 then #[] else z.cells).size]!)) (by simp) hone (by simp) (by simp [hlv])
  have hrun : (execOp a.eval o).run P w = .ok (.value (.slice (some ⟨w.heap.size, 0, none⟩) len len)) (w.alloc (.cells cells e)) := by
    have hmap' : (Array.map (fun x => match x with | (i, x) => (i, a.eval x)) parts) = (parts.map fun p => (p.1, a.eval p.2)) := rfl
    by_cases h0 : len * sz = 0
    · rw [if_pos h0] at hfill
      simp only [execOp, ho, hmap', Instr.buildSlice, Sem.run_bind, run_underlying hu, Result.andThen_ok, run_sizeOf' hj, hjs, if_neg (show ¬ len * sz > 2 ^ 24 by omega), if_pos h0, Sem.run_pure, hmapp, hfill]
      simp [newRow]
    · rw [if_neg h0] at hfill
      simp only [execOp, ho, hmap', Instr.buildSlice, Sem.run_bind, run_underlying hu, Result.andThen_ok, run_sizeOf' hj, hjs, if_neg (show ¬ len * sz > 2 ^ 24 by omega), if_neg h0, Sem.run_pure, hmapp, zeroValue, typeInfo, run_program, hj, hiz, hfill]
      simp [newRow]
  unfold wpX
  rw [hd] at hk
  rw [hrun, Oper.uponIn_value, hd]
  have hold := fun b hb => alloc_old w (.cells cells e) b hb
  have hflat : VRels w S (ys.map cellsA).flatten cells.toList := by
    rw [hcells]
    simp only [List.nil_append]
    have : ∀ (ys : List AV) (vs : List Value), VRels w S ys vs → (∀ y ∈ ys, okA y = true) → VRels w S (ys.map cellsA).flatten (vs.map fun v => v.cells.toList).flatten := by
      intro ys
      induction ys with
      | nil => intro vs hv _; rw [List.length_eq_zero_iff.1 hv.1.symm]; exact .nil
      | cons y ys ih =>
        intro vs hv hok
        cases vs with
        | nil => have := hv.1; simp at this
        | cons v vs =>
          simp only [List.map_cons, List.flatten_cons]
          exact (cellsA_rel (hv.2 0 y v rfl rfl) (hok y (by simp))).append (ih vs ⟨by have := hv.1; simpa using this, fun j x y hx hy => hv.2 (j + 1) x y (by simpa using hx) (by simpa using hy)⟩ (fun y hy => hok y (by simp [hy])))
    exact this ys _ hvs (List.all_eq_true.1 hok)
  have hyl : ys.length = len := by rw [hvs.1]; exact hlv
  have hcs : cells.size = len * sz := by
    have h4 := hflat.1
    have h5 : (ys.map cellsA).flatten.length = ys.length * sz := by
      have : ∀ ys : List AV, (∀ y ∈ ys, (cellsA y).length = sz) → (ys.map cellsA).flatten.length = ys.length * sz := by
        intro ys
        induction ys with
        | nil => simp
        | cons y ys ih => intro hy; simp only [List.map_cons, List.flatten_cons, List.length_append, List.length_cons, Nat.add_mul, ih (fun y h => hy y (by simp [h])), hy y (by simp)]; omega
      exact this ys (fun y hy => Nat.eq_of_beq_eq_true (List.all_eq_true.1 hsz y hy))
    rw [h5, hyl] at h4
    simpa using h4.symm
  refine hk _ _ S _ _ (hK w.heap.size) ((hs.push (w' := w.alloc (.cells cells e)) (grw_alloc _ _) (e := .rw (.slice (some ⟨w.heap.size, 0, none⟩) len len) e sz (ys.map cellsA)) ⟨cells.toList, ?_, hflat.mono (fun _ h => h) (fun b hb => hold b (hs.lt b hb)), ?_⟩ (fun g hg => by simp [Ent.blk, Value.ownBlock] at hg; omega)).put (.v _) hN) (upd_push (by simp) hold)
  · have := World.ownsRow_lit (base := 0) (e := e) (size := sz) w cells len (Nat.zero_le _) (by unfold maxLen; have : len ≤ len * sz := Nat.le_mul_of_pos_right _ (by omega); omega) hcs
    simpa [hyl] using this
  · intro r hr
    obtain ⟨y, hy, rfl⟩ := List.mem_map.1 hr
    exact Nat.eq_of_beq_eq_true (List.all_eq_true.1 hsz y hy)
end
end Go.Tl
