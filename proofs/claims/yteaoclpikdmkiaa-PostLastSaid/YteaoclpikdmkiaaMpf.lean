/- Maps over plain data: lists of entries, and functions. -/
import Derived.Test.YteaoclpikdmkiaaTL
section
namespace Go.Tl
open Go Go.RowKit
set_option linter.unusedVariables false
set_option linter.unusedSimpArgs false
/-- where a key lies among the entries -/
def findG {κ : Type} [DecidableEq κ] (k : κ) : List κ → List MapEntry → Nat → Option (Nat × Value)
  | k' :: ks, e :: es, i => if k = k' then some (i, e.val) else findG k ks es (i + 1)
  | _, _, _ => none
inductive KRel {κ : Type} (kv : κ → Value) : List κ → List MapEntry → Prop where
  | nil : KRel kv [] []
  | cons {k : κ} {e : MapEntry} {ks : List κ} {es : List MapEntry} (hk : e.key = kv k) (h : KRel kv ks es) : KRel kv (k :: ks) (e :: es)
structure MG (P : Program) (mt : TypeId) (κ : Type) [DecidableEq κ] where
  kt : TypeId
  vt : TypeId
  z : Value
  zA : AV
  kv : κ → Value
  ka : κ → AV
  hm : P.underlying mt = some (.map kt vt)
  inv : ∀ w S k v, VRel w S (ka k) v → v = kv k
  hz : ∀ w, (zeroValue vt).run P w = .ok z w
  hzA : ∀ w S, VRel w S zA z
  chk : ∀ e k w, (Instr.checkKey e 10000 kt (kv k)).run P w = .ok () w
  bits : ∀ k, Instr.sameBits 10000 (kv k) (kv k) = true
  find : ∀ k ks es w, KRel kv ks es → (Instr.findKey kt (kv k) es).run P w = .ok (findG k ks es 0) w
section
variable {κ : Type} [DecidableEq κ]
def lookG : List (κ × AV) → κ → Option AV
  | [], _ => none
  | (k, y) :: r, ks => if ks = k then some y else lookG r ks
def updG : List (κ × AV) → κ → AV → List (κ × AV)
  | [], ks, x => [(ks, x)]
  | (k, y) :: r, ks, x => if ks = k then (k, x) :: r else (k, y) :: updG r ks x
inductive GRel (w : World) (S : Nat → Prop) (kv : κ → Value) : List (κ × AV) → List MapEntry → Prop where
  | nil : GRel w S kv [] []
  | cons {k : κ} {y : AV} {e : MapEntry} {r : List (κ × AV)} {es : List MapEntry} (hk : e.key = kv k) (hv : VRel w S y e.val) (h : GRel w S kv r es) : GRel w S kv ((k, y) :: r) (e :: es)
omit [DecidableEq κ] in
theorem GRel.mono {w w' : World} {S S' : Nat → Prop} {kv : κ → Value} {l : List (κ × AV)} {es : List MapEntry} (h : GRel w S kv l es) (hS : ∀ b, S b → S' b) (hw : ∀ b, S b → w'.heap[b]? = w.heap[b]?) : GRel w' S' kv l es := by
  induction h with
  | nil => exact .nil
  | cons hk hv _ ih => exact .cons hk (hv.mono hS hw) ih
omit [DecidableEq κ] in
theorem GRel.keys {w : World} {S : Nat → Prop} {kv : κ → Value} {l : List (κ × AV)} {es : List MapEntry} (h : GRel w S kv l es) : KRel kv (l.map (·.1)) es := by
  induction h with
  | nil => exact .nil
  | cons hk _ _ ih => exact .cons hk ih
omit [DecidableEq κ] in
theorem GRel.push {w : World} {S : Nat → Prop} {kv : κ → Value} {l : List (κ × AV)} {es : List MapEntry} (h : GRel w S kv l es) {ks : κ} {y : AV} {e : MapEntry} (hk : e.key = kv ks) (hv : VRel w S y e.val) : GRel w S kv (l ++ [(ks, y)]) (es ++ [e]) := by
  induction h with
  | nil => exact .cons hk hv .nil
  | cons b c _ ih => exact .cons b c ih
def mapGO (kv : κ → Value) (g : Nat) (l : List (κ × AV)) : Ob where
  fp := fun b => b = g
  Φ := fun w S => ∃ es clock, w.heap[g]? = some (.map es clock) ∧ GRel w S kv l es.toList
  lt := fun ⟨es, c, h, _⟩ b hb => by rw [hb]; exact (Array.getElem?_eq_some_iff.1 h).1
  keep := fun ⟨es, c, h, hr⟩ _ _ _ _ hS hw hg => ⟨es, c, (hg g rfl).trans h, hr.mono hS hw⟩
abbrev mapG (kv : κ → Value) (g : Nat) (l : List (κ × AV)) : Ent := .ob (mapGO kv g l)
theorem findsG {w : World} {S : Nat → Prop} {kv : κ → Value} {l : List (κ × AV)} {es : List MapEntry} (h : GRel w S kv l es) (k : κ) : ∀ j,
    (lookG l k = none ∧ (∀ y, updG l k y = l ++ [(k, y)]) ∧ findG k (l.map (·.1)) es j = none) ∨
    (∃ i e y, lookG l k = some y ∧ es[i]? = some e ∧ e.key = kv k ∧ VRel w S y e.val ∧ findG k (l.map (·.1)) es j = some (j + i, e.val) ∧
      ∀ x v, VRel w S x v → ∀ e', e'.key = kv k → e'.val = v → GRel w S kv (updG l k x) (es.set i e')) := by
  induction h with
  | nil => exact fun j => .inl ⟨rfl, fun _ => rfl, rfl⟩
  | @cons k' y e r es hk hv hr ih =>
    intro j
    by_cases hh : k = k'
    · subst hh
      refine .inr ⟨0, e, y, by simp [lookG], rfl, hk, hv, by simp [findG], fun x v hx e' h1 h2 => ?_⟩
      simp only [updG, if_true, List.set_cons_zero]
      exact .cons h1 (h2 ▸ hx) hr
    · rcases ih (j + 1) with ⟨h1, h2, h3⟩ | ⟨i, e1, y1, h1, h2, h3, h4, h5, h6⟩
      · exact .inl ⟨by simp [lookG, hh, h1], fun x => by simp [updG, hh, h2], by simp [findG, hh, h3]⟩
      · refine .inr ⟨i + 1, e1, y1, by simp [lookG, hh, h1], by simpa using h2, h3, h4, ?_, fun x v hx e' h7 h8 => ?_⟩
        · have e4 : j + (i + 1) = j + 1 + i := by omega
          rw [e4]
          simp [findG, hh, h5]
        · simp only [updG, hh, if_false, List.set_cons_succ]
          exact .cons hk hv (h6 x v hx e' h7 h8)
variable {P : Program} {mt : TypeId} {N : Nat} {o : Oper} {md : Nat → Prop} {s : Slots} {h : List Ent} {K : Slots → List Ent → Prop}
theorem lv_lookupG (M : MG P mt κ) {m x : Operand} {g : Nat} {k : κ} {kA : AV} {l : List (κ × AV)} {y : AV} (ho : o.op = .lookup mt m x false) (hm : evA s m = some (.v (.map (some g)))) (hk : evA s x = some kA) (hka : M.ka k = kA) (hmem : Mem1 (mapG M.kv g l) h)
    (hy : (lookG l k).getD M.zA = y) : LV P o s h (some (mapG M.kv g l)) y := fun w S a hs hh => by
  subst hy hka
  obtain ⟨es, clock, hg, hr⟩ := hh.ent _ hmem.mem
  have hkv := M.inv _ _ _ _ (hs.eval hk)
  have hf := fun w => M.find k _ _ w hr.keys
  rcases findsG hr k 0 with ⟨h1, _, h3⟩ | ⟨i, e, y1, h1, h2, h3, h4, h5, _⟩
  · refine ⟨M.z, g, fun w' hw' => ?_, ?_, .inr ⟨_, rfl, hmem.mem, rfl⟩⟩
    · rw [hg] at hw'
      have hc := fun e w => M.chk e k w
      simp [execOp, ho, hs.lit hm, hkv, Instr.lookup, run_underlying M.hm, MapKept.run_getObj_map hw', hc, hf, h3, M.hz, Result.andThen]
    · rw [h1]
      exact M.hzA w S
  · refine ⟨e.val, g, fun w' hw' => ?_, ?_, .inr ⟨_, rfl, hmem.mem, rfl⟩⟩
    · rw [hg] at hw'
      have hc := fun e w => M.chk e k w
      simp [execOp, ho, hs.lit hm, hkv, Instr.lookup, run_underlying M.hm, MapKept.run_getObj_map hw', hc, hf, h5, Result.andThen]
    · rw [h1]
      exact h4
omit [DecidableEq κ] in
theorem aop_makeMapG (kv : κ → Value) {d : Nat} (ho : o.op = .makeMap mt none) (hd : o.dst = some d) (hN : Nat.blt d N = true) (hK : ∀ g, K ((d, .v (.map (some g))) :: s) (mapG kv g [] :: h)) : AOp P N o md s h K := fun B w S a hs Kr Qr hk => by
  have hrun : (execOp a.eval o).run P w = .ok (.value (.map (some w.heap.size))) (w.alloc (.map #[] 0)) := by
    simp [execOp, ho, Instr.makeMap]
  unfold wpX
  rw [hd] at hk
  rw [hrun, Oper.uponIn_value, hd]
  have hold := fun b hb => alloc_old w (.map #[] 0) b hb
  refine hk _ _ S _ _ (hK w.heap.size) ((hs.push (w' := w.alloc (.map #[] 0)) (grw_alloc _ _) (e := mapG kv w.heap.size []) ⟨#[], 0, by rw [heap_alloc_new], .nil⟩ (fun g hg => by have : g = w.heap.size := hg; omega)).put (.v _) (blt_lt hN)) (upd_push (by simp) hold)
theorem aop_mapUpdateG (M : MG P mt κ) {m kx x : Operand} {g : Nat} {k : κ} {kA : AV} {y : AV} {l l' : List (κ × AV)} {h' : List Ent} (ho : o.op = .mapUpdate mt m kx x) (hm : evA s m = some (.v (.map (some g)))) (hk : evA s kx = some kA) (hka : M.ka k = kA) (hx : evA s x = some y) (hd : o.dst = none)
    (hp : Repl h (mapG M.kv g l) (mapG M.kv g l') h') (hl : updG l k y = l') (hmd : md g) (hK : K s h') : AOp P N o md s h K := fun B w S a hs Kr Qr hk0 => by
  subst hl hka
  have hmem : mapG M.kv g l ∈ h := by obtain ⟨p, q, rfl, _⟩ := hp.split; simp
  obtain ⟨es, clock, hg, hr⟩ := hs.heap.ent _ hmem
  have hkv := M.inv _ _ _ _ (hs.slots.eval hk)
  have hf := fun w => M.find k _ _ w hr.keys
  have hxv := hs.slots.eval hx
  generalize hev : a.eval x = v at *
  have hlt : g < w.heap.size := (Array.getElem?_eq_some_iff.1 hg).1
  have hc := fun e w => M.chk e k w
  have hbk := M.bits k
  have fin : ∀ ob : Obj, (∃ es' c', ob = .map es' c' ∧ GRel w S M.kv (updG l k y) es'.toList) → Sim B N (w.putObj g ob) S s h' a ∧ Upd w S (w.putObj g ob) S md := by
    rintro ob ⟨es', c', rfl, hr'⟩
    have hoth : ∀ b, b ≠ g → (w.putObj g (.map es' c')).heap[b]? = w.heap[b]? := fun b hb => World.putObj_heap_other hb
    have hgrw : Grw w (w.putObj g (.map es' c')) (mapG M.kv g l).blk := ⟨rfl, rfl, rfl, by simp, fun b hb hn => hoth b (fun e => hn e)⟩
    exact ⟨hs.repl hp hgrw ⟨es', c', World.putObj_heap_same hlt, hr'.mono (fun _ h => h) (fun b hb => hoth b (fun e => hs.heap.off _ hmem g rfl (e ▸ hb)))⟩ (fun g' hg' => .inl hg'), ⟨by simp, fun b hb hn => hoth b (fun e => hn (e ▸ hmd)), fun _ h => h⟩⟩
  unfold wpX
  rw [hd] at hk0
  rcases findsG hr k 0 with ⟨h1, h2, h3⟩ | ⟨i, e, y1, h1, h2, h3, h4, h5, h6⟩
  · have hrun : (execOp a.eval o).run P w = .ok .skip (w.putObj g (.map (es.push { key := M.kv k, val := v, born := clock }) (clock + 1))) := by
      simp [execOp, ho, hs.slots.lit hm, hkv, hev, Instr.mapUpdate, run_underlying M.hm, MapKept.run_getObj_map hg, hc, hf, h3, MapKept.run_setObj_map _ hg, Result.andThen, World.putObj]
    rw [hrun, Oper.uponIn_skip, hd]
    obtain ⟨f1, f2⟩ := fin (.map (es.push { key := M.kv k, val := v, born := clock }) (clock + 1)) ⟨_, _, rfl, by rw [h2, Array.toList_push]; exact hr.push rfl hxv⟩
    exact hk0 _ _ S _ _ hK f1.putNone f2
  · have hi' : es[i]? = some e := by simpa using h2
    rw [Nat.zero_add] at h5
    have hrun : (execOp a.eval o).run P w = .ok .skip (w.putObj g (.map (es.modify i fun e => { e with key := M.kv k, val := v }) clock)) := by
      simp [execOp, ho, hs.slots.lit hm, hkv, hev, Instr.mapUpdate, run_underlying M.hm, MapKept.run_getObj_map hg, hc, hf, h5, hi', h3, Instr.keyThatStays, hbk, MapKept.run_setObj_map _ hg, Result.andThen, World.putObj]
    rw [hrun, Oper.uponIn_skip, hd]
    have hmod : (es.modify i fun e => { e with key := M.kv k, val := v }).toList = es.toList.set i { e with key := M.kv k, val := v } := by
      rw [Array.toList_modify]
      apply List.ext_getElem?
      intro j
      rw [List.getElem?_modify, List.getElem?_set]
      by_cases hj : i = j
      · subst hj
        have : i < es.toList.length := (List.getElem?_eq_some_iff.1 h2).1
        rw [h2]
        simp [show i < es.size by simpa using this]
      · simp [hj]
    obtain ⟨f1, f2⟩ := fin (.map (es.modify i fun e => { e with key := M.kv k, val := v }) clock) ⟨_, _, rfl, by rw [hmod]; exact h6 y v hxv _ rfl rfl⟩
    exact hk0 _ _ S _ _ hK f1.putNone f2
end
end Go.Tl
end
section
namespace Go.Tl
open Go Go.RowKit
set_option linter.unusedVariables false
set_option linter.unusedSimpArgs false
section
variable {κ : Type} [DecidableEq κ]
def updF (f : κ → AV) (k : κ) (y : AV) : κ → AV := fun q => if q = k then y else f q
theorem look_upd (y : AV) (k q : κ) : ∀ l : List (κ × AV), lookG (updG l k y) q = if q = k then some y else lookG l q
  | [] => by simp [updG, lookG]
  | (k', y') :: r => by
    have ih := look_upd y k q r
    by_cases c : k = k'
    · subst c
      simp only [updG, lookG, if_true]
      by_cases e : q = k
      · rw [if_pos e, if_pos e]
      · rw [if_neg e, if_neg e, if_neg e]
    · simp only [updG, lookG, if_neg c]
      by_cases e : q = k'
      · subst e
        rw [if_pos rfl, if_neg (fun h => c h.symm), if_pos rfl]
      · rw [if_neg e, if_neg e, ih]
theorem look_snoc (y : AV) (k q : κ) : ∀ l : List (κ × AV), lookG l k = none → lookG (l ++ [(k, y)]) q = if q = k then some y else lookG l q
  | [], _ => by simp [lookG]
  | (k', y') :: r, h => by
    simp only [lookG] at h
    by_cases c : k = k'
    · rw [if_pos c] at h; cases h
    rw [if_neg c] at h
    have ih := look_snoc y k q r h
    simp only [List.cons_append, lookG]
    by_cases e : q = k'
    · subst e
      rw [if_pos rfl, if_neg (fun h => c h.symm), if_pos rfl]
    · rw [if_neg e, if_neg e, ih]
theorem find_snoc (k : κ) (kv : κ → Value) {e : MapEntry} : ∀ {ks : List κ} {es : List MapEntry} (j : Nat), KRel kv ks es → findG k ks es j = none → findG k (ks ++ [k]) (es ++ [e]) j = some (j + es.length, e.val)
  | _, _, j, .nil, _ => by simp [findG]
  | k' :: ks, e' :: es, j, .cons hk h, hf => by
    simp only [findG] at hf
    by_cases c : k = k'
    · rw [if_pos c] at hf; cases hf
    rw [if_neg c] at hf
    have := find_snoc k kv (e := e) (j + 1) h hf
    simp only [List.cons_append, findG, if_neg c, List.length_cons]
    rw [this, show j + 1 + es.length = j + (es.length + 1) by omega]
theorem arr_find (es : Array MapEntry) (p : MapEntry → Bool) : es.findIdx? p = es.toList.findIdx? p := by cases es; simp
structure Borns (es : List MapEntry) (clock : Nat) : Prop where
  lt : ∀ e ∈ es, e.born < clock
  nd : (es.map (·.born)).Nodup
theorem borns_snoc {es : List MapEntry} {clock : Nat} (h : Borns es clock) {e : MapEntry} (he : e.born = clock) : Borns (es ++ [e]) (clock + 1) := by
  refine ⟨fun x hx => ?_, ?_⟩
  · rcases List.mem_append.1 hx with hx | hx
    · have := h.lt x hx; omega
    · obtain rfl := List.mem_singleton.1 hx; omega
  · rw [List.map_append, List.nodup_append]
    refine ⟨h.nd, by simp, fun a ha b hb => ?_⟩
    obtain ⟨x, hx, rfl⟩ := List.mem_map.1 ha
    have := h.lt x hx
    simp at hb
    omega
theorem borns_set {es : List MapEntry} {clock i : Nat} (h : Borns es clock) {e e' : MapEntry} (hi : es[i]? = some e) (he : e'.born = e.born) : Borns (es.set i e') clock := by
  have hm : (es.set i e').map (·.born) = es.map (·.born) := by
    refine List.ext_getElem? fun j => ?_
    rw [List.getElem?_map, List.getElem?_map, List.getElem?_set]
    by_cases c : i = j
    · subst c
      obtain ⟨hl, hv⟩ := List.getElem?_eq_some_iff.1 hi
      rw [if_pos rfl, if_pos hl, hi]
      simp [he]
    · rw [if_neg c]
  refine ⟨fun x hx => ?_, by rw [hm]; exact h.nd⟩
  rcases List.mem_or_eq_of_mem_set hx with hx | hx
  · exact h.lt x hx
  · subst hx
    rw [he]
    exact h.lt e (List.mem_of_getElem? hi)
theorem find_born {n : Nat} : ∀ {es : List MapEntry} {i : Nat} {e : MapEntry}, (es.map (·.born)).Nodup → es[i]? = some e → e.born = n → es.findIdx? (fun e => (e.born : Int) == (n : Int)) = some i
  | [], i, e, _, hi, _ => by simp at hi
  | x :: es, 0, e, _, hi, hn => by
    simp at hi
    subst hi
    simp [List.findIdx?_cons, hn]
  | x :: es, i + 1, e, hd, hi, hn => by
    simp only [List.map_cons, List.nodup_cons] at hd
    simp only [List.getElem?_cons_succ] at hi
    have h1 := find_born hd.2 hi hn
    have hne : x.born ≠ n := fun h => hd.1 (List.mem_map.2 ⟨e, List.mem_of_getElem? hi, by rw [hn, h]⟩)
    have : ((x.born : Int) == (n : Int)) = false := by simpa using (fun h => hne (Int.ofNat.inj h))
    simp [List.findIdx?_cons, this, h1]
/-- a map by its function; `st`: the entry of a key that is being written has this number -/
def mapFO (kv : κ → Value) (z : AV) (g : Nat) (f : κ → AV) (st : Option (κ × Nat)) : Ob where
  fp := fun b => b = g
  Φ := fun w S => ∃ es clock l, w.heap[g]? = some (.map es clock) ∧ GRel w S kv l es.toList ∧ (∀ k, (lookG l k).getD z = f k) ∧ Borns es.toList clock ∧
    ∀ k n, st = some (k, n) → ∃ i e, findG k (l.map (·.1)) es.toList 0 = some (i, e.val) ∧ es.toList[i]? = some e ∧ e.born = n
  lt := fun ⟨es, c, l, h, _⟩ b hb => by rw [hb]; exact (Array.getElem?_eq_some_iff.1 h).1
  keep := fun ⟨es, c, l, h, hr, hrest⟩ _ _ _ _ hS hw hg => ⟨es, c, l, (hg g rfl).trans h, hr.mono hS hw, hrest⟩
abbrev mapF (kv : κ → Value) (z : AV) (g : Nat) (f : κ → AV) (st : Option (κ × Nat)) : Ent := .ob (mapFO kv z g f st)
variable {P : Program} {mt : TypeId} {N : Nat} {o : Oper} {md : Nat → Prop} {s : Slots} {h : List Ent} {K : Slots → List Ent → Prop}
theorem lv_lookupF (M : MG P mt κ) {m x : Operand} {g : Nat} {k : κ} {kA : AV} {f : κ → AV} {y : AV} {st : Option (κ × Nat)} (ho : o.op = .lookup mt m x false) (hm : evA s m = some (.v (.map (some g)))) (hk : evA s x = some kA) (hka : M.ka k = kA) (hmem : Mem1 (mapF M.kv M.zA g f st) h)
    (hy : f k = y) : LV P o s h (some (mapF M.kv M.zA g f st)) y := fun w S a hs hh => by
  subst hy hka
  obtain ⟨es, clock, l, hg, hr, hf', _⟩ := hh.ent _ hmem.mem
  have hkv := M.inv _ _ _ _ (hs.eval hk)
  have hf := fun w => M.find k _ _ w hr.keys
  have hfk := hf' k
  rcases findsG hr k 0 with ⟨h1, _, h3⟩ | ⟨i, e, y1, h1, h2, h3, h4, h5, _⟩
  · refine ⟨M.z, g, fun w' hw' => ?_, ?_, .inr ⟨_, rfl, hmem.mem, rfl⟩⟩
    · rw [hg] at hw'
      have hc := fun e w => M.chk e k w
      simp [execOp, ho, hs.lit hm, hkv, Instr.lookup, run_underlying M.hm, MapKept.run_getObj_map hw', hc, hf, h3, M.hz, Result.andThen]
    · rw [← hfk, h1]
      exact M.hzA w S
  · refine ⟨e.val, g, fun w' hw' => ?_, ?_, .inr ⟨_, rfl, hmem.mem, rfl⟩⟩
    · rw [hg] at hw'
      have hc := fun e w => M.chk e k w
      simp [execOp, ho, hs.lit hm, hkv, Instr.lookup, run_underlying M.hm, MapKept.run_getObj_map hw', hc, hf, h5, Result.andThen]
    · rw [← hfk, h1]
      exact h4
theorem aop_makeMapF (kv : κ → Value) (z : AV) {d : Nat} (ho : o.op = .makeMap mt none) (hd : o.dst = some d) (hN : Nat.blt d N = true) (hK : ∀ g, K ((d, .v (.map (some g))) :: s) (mapF kv z g (fun _ => z) none :: h)) : AOp P N o md s h K := fun B w S a hs Kr Qr hk => by
  have hrun : (execOp a.eval o).run P w = .ok (.value (.map (some w.heap.size))) (w.alloc (.map #[] 0)) := by
    simp [execOp, ho, Instr.makeMap]
  unfold wpX
  rw [hd] at hk
  rw [hrun, Oper.uponIn_value, hd]
  have hold := fun b hb => alloc_old w (.map #[] 0) b hb
  refine hk _ _ S _ _ (hK w.heap.size) ((hs.push (w' := w.alloc (.map #[] 0)) (grw_alloc _ _) (e := mapF kv z w.heap.size (fun _ => z) none) ⟨#[], 0, [], by rw [heap_alloc_new], .nil, fun _ => rfl, ⟨by simp, by simp⟩, fun k n h => (by cases h)⟩ (fun g hg => by have : g = w.heap.size := hg; omega)).put (.v _) (blt_lt hN)) (upd_push (by simp) hold)
theorem fin_mapF {B : Base} {w : World} {S : Nat → Prop} {a : Act} {kv : κ → Value} {z : AV} {g : Nat} {f f' : κ → AV} {st st' : Option (κ × Nat)} {h' : List Ent} (hs : Sim B N w S s h a) (hp : Repl h (mapF kv z g f st) (mapF kv z g f' st') h') (hmd : md g) {es' : Array MapEntry} {c' : Nat} {l' : List (κ × AV)}
    (h1 : GRel w S kv l' es'.toList) (h2 : ∀ k, (lookG l' k).getD z = f' k) (h3 : Borns es'.toList c') (h4 : ∀ k n, st' = some (k, n) → ∃ i e, findG k (l'.map (·.1)) es'.toList 0 = some (i, e.val) ∧ es'.toList[i]? = some e ∧ e.born = n) :
    Sim B N (w.putObj g (.map es' c')) S s h' a ∧ Upd w S (w.putObj g (.map es' c')) S md := by
  have hmem : mapF kv z g f st ∈ h := by obtain ⟨p, q, rfl, _⟩ := hp.split; simp
  obtain ⟨es, clock, l, hg, _⟩ := hs.heap.ent _ hmem
  have hlt : g < w.heap.size := (Array.getElem?_eq_some_iff.1 hg).1
  have hoth : ∀ b, b ≠ g → (w.putObj g (.map es' c')).heap[b]? = w.heap[b]? := fun b hb => World.putObj_heap_other hb
  have hgrw : Grw w (w.putObj g (.map es' c')) (mapF kv z g f st).blk := ⟨rfl, rfl, rfl, by simp, fun b hb hn => hoth b (fun e => hn e)⟩
  exact ⟨hs.repl hp hgrw ⟨es', c', l', World.putObj_heap_same hlt, h1.mono (fun _ h => h) (fun b hb => hoth b (fun e => hs.heap.off _ hmem g rfl (e ▸ hb))), h2, h3, h4⟩ (fun g' hg' => .inl hg'), ⟨by simp, fun b hb hn => hoth b (fun e => hn (e ▸ hmd)), fun _ h => h⟩⟩
theorem mod_set {es : Array MapEntry} {i : Nat} {e : MapEntry} (h2 : es.toList[i]? = some e) (q : MapEntry → MapEntry) : (es.modify i q).toList = es.toList.set i (q e) := by
  rw [Array.toList_modify]
  apply List.ext_getElem?
  intro j
  rw [List.getElem?_modify, List.getElem?_set]
  by_cases hj : i = j
  · subst hj
    have : i < es.toList.length := (List.getElem?_eq_some_iff.1 h2).1
    rw [h2]
    simp [show i < es.size by simpa using this]
  · simp [hj]
theorem look_updF {l : List (κ × AV)} {z : AV} {f : κ → AV} (h : ∀ k, (lookG l k).getD z = f k) (k : κ) (y : AV) : ∀ q, (lookG (updG l k y) q).getD z = updF f k y q := fun q => by
  rw [look_upd]
  unfold updF
  by_cases c : q = k
  · rw [if_pos c, if_pos c]; rfl
  · rw [if_neg c, if_neg c]; exact h q
theorem aop_mapUpdateF (M : MG P mt κ) {m kx x : Operand} {g : Nat} {k : κ} {kA : AV} {y : AV} {f f' : κ → AV} {h' : List Ent} (ho : o.op = .mapUpdate mt m kx x) (hm : evA s m = some (.v (.map (some g)))) (hk : evA s kx = some kA) (hka : M.ka k = kA) (hx : evA s x = some y) (hd : o.dst = none)
    (hp : Repl h (mapF M.kv M.zA g f none) (mapF M.kv M.zA g f' none) h') (hl : updF f k y = f') (hmd : md g) (hK : K s h') : AOp P N o md s h K := fun B w S a hs Kr Qr hk0 => by
  subst hl hka
  have hmem : mapF M.kv M.zA g f none ∈ h := by obtain ⟨p, q, rfl, _⟩ := hp.split; simp
  obtain ⟨es, clock, l, hg, hr, hlf, hb, _⟩ := hs.heap.ent _ hmem
  have hkv := M.inv _ _ _ _ (hs.slots.eval hk)
  have hf := fun w => M.find k _ _ w hr.keys
  have hxv := hs.slots.eval hx
  generalize hev : a.eval x = v at *
  have hc := fun e w => M.chk e k w
  have hbk := M.bits k
  unfold wpX
  rw [hd] at hk0
  rcases findsG hr k 0 with ⟨h1, h2, h3⟩ | ⟨i, e, y1, h1, h2, h3, h4, h5, h6⟩
  · have hrun : (execOp a.eval o).run P w = .ok .skip (w.putObj g (.map (es.push { key := M.kv k, val := v, born := clock }) (clock + 1))) := by
      simp [execOp, ho, hs.slots.lit hm, hkv, hev, Instr.mapUpdate, run_underlying M.hm, MapKept.run_getObj_map hg, hc, hf, h3, MapKept.run_setObj_map _ hg, Result.andThen, World.putObj]
    rw [hrun, Oper.uponIn_skip, hd]
    obtain ⟨f1, f2⟩ := fin_mapF hs hp hmd (es' := es.push { key := M.kv k, val := v, born := clock }) (c' := clock + 1) (l' := updG l k y) (by rw [h2, Array.toList_push]; exact hr.push rfl hxv) (look_updF hlf k y) (by rw [Array.toList_push]; exact borns_snoc hb rfl) (fun k n h => (by cases h))
    exact hk0 _ _ S _ _ hK f1.putNone f2
  · have hi' : es[i]? = some e := by simpa using h2
    rw [Nat.zero_add] at h5
    have hrun : (execOp a.eval o).run P w = .ok .skip (w.putObj g (.map (es.modify i fun e => { e with key := M.kv k, val := v }) clock)) := by
      simp [execOp, ho, hs.slots.lit hm, hkv, hev, Instr.mapUpdate, run_underlying M.hm, MapKept.run_getObj_map hg, hc, hf, h5, hi', h3, Instr.keyThatStays, hbk, MapKept.run_setObj_map _ hg, Result.andThen, World.putObj]
    rw [hrun, Oper.uponIn_skip, hd]
    have hmod := mod_set h2 (fun e => { e with key := M.kv k, val := v })
    obtain ⟨f1, f2⟩ := fin_mapF hs hp hmd (es' := es.modify i fun e => { e with key := M.kv k, val := v }) (c' := clock) (l' := updG l k y) (by rw [hmod]; exact h6 y v hxv _ rfl rfl) (look_updF hlf k y) (by rw [hmod]; exact borns_set hb h2 rfl) (fun k n h => (by cases h))
    exact hk0 _ _ S _ _ hK f1.putNone f2
theorem find_set {k : κ} {kv : κ → Value} {x : Value} : ∀ {ks : List κ} {es : List MapEntry} {i j : Nat} {v : Value} {e e' : MapEntry}, KRel kv ks es → findG k ks es j = some (j + i, v) → e'.val = x → findG k ks (es.set i e') j = some (j + i, x)
  | _, _, i, j, v, e, e', .nil, h, _ => by simp [findG] at h
  | k' :: ks, e0 :: es, i, j, v, e, e', .cons hk hr, h, hx => by
    simp only [findG] at h
    by_cases c : k = k'
    · rw [if_pos c] at h
      simp only [Option.some.injEq, Prod.mk.injEq] at h
      obtain rfl : i = 0 := by omega
      simp only [List.set_cons_zero, findG, if_pos c, hx, Nat.add_zero]
    · rw [if_neg c] at h
      cases i with
      | zero =>
        exfalso
        have : ∀ (ks : List κ) (es : List MapEntry) (q : Nat) (r : Nat × Value), findG k ks es q = some r → q ≤ r.1 := fun ks => by
          induction ks with
          | nil => intro es q r h; simp [findG] at h
          | cons a ks ih =>
            intro es q r h
            cases es with
            | nil => simp [findG] at h
            | cons b es =>
              simp only [findG] at h
              split at h
              · cases h; exact Nat.le_refl _
              · have := ih es (q + 1) r h; omega
        have := this _ _ _ _ h
        simp at this
        omega
      | succ i =>
        have := find_set (i := i) (j := j + 1) (e := e) (e' := e') hr (by rw [h]; congr 2; omega) hx
        simp only [List.set_cons_succ, findG, if_neg c]
        rw [this]; congr 2; omega
theorem aop_mapEntryF (M : MG P mt κ) {m kx : Operand} {g d : Nat} {k : κ} {kA : AV} {f : κ → AV} {h' : Nat → List Ent} (ho : o.op = .mapEntry mt m kx) (hm : evA s m = some (.v (.map (some g)))) (hk : evA s kx = some kA) (hka : M.ka k = kA) (hd : o.dst = some d) (hN : Nat.blt d N = true)
    (hp : ∀ n : Nat, Repl h (mapF M.kv M.zA g f none) (mapF M.kv M.zA g f (some (k, n))) (h' n)) (hmd : md g) (hK : ∀ n : Nat, K ((d, .tup [f k, .v (.int .i64 n)]) :: s) (h' n)) : AOp P N o md s h K := fun B w S a hs Kr Qr hk0 => by
  subst hka
  have hmem : mapF M.kv M.zA g f none ∈ h := by obtain ⟨p, q, rfl, _⟩ := (hp 0).split; simp
  obtain ⟨es, clock, l, hg, hr, hlf, hb, _⟩ := hs.heap.ent _ hmem
  have hkv := M.inv _ _ _ _ (hs.slots.eval hk)
  have hf := fun w => M.find k _ _ w hr.keys
  have hc := fun e w => M.chk e k w
  have hbk := M.bits k
  have hfk := hlf k
  unfold wpX
  rw [hd] at hk0
  rcases findsG hr k 0 with ⟨h1, h2, h3⟩ | ⟨i, e, y1, h1, h2, h3, h4, h5, h6⟩
  · have hrun : (execOp a.eval o).run P w = .ok (.value (.tuple #[M.z, .int .i64 clock])) (w.putObj g (.map (es.push { key := M.kv k, val := M.z, born := clock }) (clock + 1))) := by
      simp [execOp, ho, hs.slots.lit hm, hkv, Instr.mapEntry, run_underlying M.hm, MapKept.run_getObj_map hg, hc, hf, h3, M.hz, MapKept.run_setObj_map _ hg, Result.andThen, World.putObj, goInt]
    rw [hrun, Oper.uponIn_value, hd]
    have hzf : f k = M.zA := by rw [← hfk, h1]; rfl
    obtain ⟨f1, f2⟩ := fin_mapF hs (hp clock) hmd (es' := es.push { key := M.kv k, val := M.z, born := clock }) (c' := clock + 1) (l' := l ++ [(k, M.zA)]) (by rw [Array.toList_push]; exact hr.push rfl (M.hzA _ _)) (fun q => by
        rw [look_snoc _ _ _ _ h1]
        by_cases c : q = k
        · rw [if_pos c, c, hzf]; rfl
        · rw [if_neg c]; exact hlf q) (by rw [Array.toList_push]; exact borns_snoc hb rfl) (fun k' n h => by
        cases h
        refine ⟨es.toList.length, { key := M.kv k, val := M.z, born := clock }, ?_, by rw [Array.toList_push]; simp, rfl⟩
        rw [List.map_append, Array.toList_push]
        have := find_snoc k M.kv (e := { key := M.kv k, val := M.z, born := clock }) 0 hr.keys h3
        rw [Nat.zero_add] at this
        exact this)
    refine hk0 _ _ S _ _ (hK clock) (f1.put (.tup (vs := [M.z, .int .i64 clock]) rfl fun j x y hx hy => ?_) (blt_lt hN)) f2
    match j with
    | 0 => simp at hx hy; subst hx hy; rw [hzf]; exact M.hzA _ _
    | 1 => simp at hx hy; subst hx hy; exact .v _
    | j + 2 => simp at hx
  · have hi' : es[i]? = some e := by simpa using h2
    rw [Nat.zero_add] at h5
    have hrun : (execOp a.eval o).run P w = .ok (.value (.tuple #[e.val, .int .i64 e.born])) (w.putObj g (.map (es.modify i fun e => { e with key := M.kv k }) clock)) := by
      simp [execOp, ho, hs.slots.lit hm, hkv, Instr.mapEntry, run_underlying M.hm, MapKept.run_getObj_map hg, hc, hf, h5, hi', h3, Instr.keyThatStays, hbk, MapKept.run_setObj_map _ hg, Result.andThen, World.putObj, goInt]
    rw [hrun, Oper.uponIn_value, hd]
    have hmod := mod_set h2 (fun e => { e with key := M.kv k })
    have hsame : es.toList.set i { e with key := M.kv k } = es.toList := by
      rw [← h3]
      obtain ⟨hl, hv⟩ := List.getElem?_eq_some_iff.1 h2
      rw [← hv]
      exact List.set_getElem_self _
    rw [hsame] at hmod
    obtain ⟨f1, f2⟩ := fin_mapF hs (hp e.born) hmd (es' := es.modify i fun e => { e with key := M.kv k }) (c' := clock) (l' := l) (by rw [hmod]; exact hr) hlf (by rw [hmod]; exact hb) (fun k' n h => by
        cases h
        rw [hmod]
        exact ⟨i, e, h5, h2, rfl⟩)
    refine hk0 _ _ S _ _ (hK e.born) (f1.put (.tup (vs := [e.val, .int .i64 e.born]) rfl fun j x y hx hy => ?_) (blt_lt hN)) f2
    have hfy : f k = y1 := by rw [← hfk, h1]; rfl
    match j with
    | 0 =>
      simp at hx hy; subst hx hy; rw [hfy]
      exact h4.mono (fun _ h => h) (fun b hb => World.putObj_heap_other (fun e => hs.heap.off _ hmem g rfl (e ▸ hb)))
    | 1 => simp at hx hy; subst hx hy; exact .v _
    | j + 2 => simp at hx
theorem aop_entryStoreF (M : MG P mt κ) {m sx x : Operand} {g n : Nat} {k : κ} {y : AV} {f f' : κ → AV} {h' : List Ent} (ho : o.op = .entryStore mt m sx x) (hm : evA s m = some (.v (.map (some g)))) (hn : evA s sx = some (.v (.int .i64 n))) (hx : evA s x = some y) (hd : o.dst = none)
    (hp : Repl h (mapF M.kv M.zA g f (some (k, n))) (mapF M.kv M.zA g f' none) h') (hl : updF f k y = f') (hmd : md g) (hK : K s h') : AOp P N o md s h K := fun B w S a hs Kr Qr hk0 => by
  subst hl
  have hmem : mapF M.kv M.zA g f (some (k, n)) ∈ h := by obtain ⟨p, q, rfl, _⟩ := hp.split; simp
  obtain ⟨es, clock, l, hg, hr, hlf, hb, hst⟩ := hs.heap.ent _ hmem
  obtain ⟨i0, e0, t1, t2, t3⟩ := hst k n rfl
  have hxv := hs.slots.eval hx
  have hnv := hs.slots.lit hn
  generalize hev : a.eval x = v at *
  unfold wpX
  rw [hd] at hk0
  rcases findsG hr k 0 with ⟨h1, h2, h3⟩ | ⟨i, e, y1, h1, h2, h3, h4, h5, h6⟩
  · rw [h3] at t1; cases t1
  rw [Nat.zero_add] at h5
  rw [h5] at t1
  obtain rfl : i = i0 := by injection t1 with t; injection t
  rw [h2] at t2
  obtain rfl : e = e0 := by injection t2
  have hfi : es.findIdx? (fun e => (e.born : Int) == (n : Int)) = some i := by
    have := find_born hb.nd h2 t3
    rw [arr_find]
    exact this
  have hrun : (execOp a.eval o).run P w = .ok .skip (w.putObj g (.map (es.modify i fun e => { e with val := v }) clock)) := by
    simp [execOp, ho, hs.slots.lit hm, hnv, hev, Instr.entryStore, MapKept.run_getObj_map hg, asInt, asIntOf, hfi, MapKept.run_setObj_map _ hg, Result.andThen, World.putObj]
  rw [hrun, Oper.uponIn_skip, hd]
  have hmod := mod_set h2 (fun e => { e with val := v })
  obtain ⟨f1, f2⟩ := fin_mapF hs hp hmd (es' := es.modify i fun e => { e with val := v }) (c' := clock) (l' := updG l k y) (by rw [hmod]; exact h6 y v hxv _ h3 rfl) (look_updF hlf k y) (by rw [hmod]; exact borns_set hb h2 rfl) (fun k n h => (by cases h))
  exact hk0 _ _ S _ _ hK f1.putNone f2
end
end Go.Tl
end
