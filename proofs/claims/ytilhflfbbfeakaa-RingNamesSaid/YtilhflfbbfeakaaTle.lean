/- Maps whose keys are structs of integers, over plain trees. -/
import Derived.Test.YtilhflfbbfeakaaTld
import Derived.ChangeKeysEq
namespace Go.Tl
open Go Go.RowKit
set_option linter.unusedVariables false
set_option linter.unusedSimpArgs false

def kV (ks : List Int) : Value := .agg (ks.map (Value.int .i64)).toArray
def kA (ks : List Int) : AV := .ag ((ks.map (Value.int .i64)).map AV.v)
theorem kA_inv {w : World} {S : Nat → Prop} {ks : List Int} {v : Value} (h : VRel w S (kA ks) v) : v = kV ks := by
  unfold kA at h
  cases h with
  | ag hl hh => rw [VRels.lits_inv ⟨hl, hh⟩]; rfl
/-- a type of maps -/
structure MK (P : Program) (mt : TypeId) (n : Nat) where
  kt : TypeId
  vt : TypeId
  z : Value
  zA : AV
  fs : Array Field
  hm : P.underlying mt = some (.map kt vt)
  hk : P.underlying kt = some (.struct fs)
  hz : ∀ w, (zeroValue vt).run P w = .ok z w
  hzA : ∀ w S, VRel w S zA z
  chk : ∀ e ks w, ks.length = n → (Instr.checkKey e 10000 kt (kV ks)).run P w = .ok () w
  eq : ∀ as bs w, as.length = n → bs.length = n → (Op.equal kt (kV as) (kV bs)).run P w = .ok (decide (as = bs)) w

def lookL : List (List Int × AV) → List Int → Option AV
  | [], _ => none
  | (k, y) :: r, ks => if ks = k then some y else lookL r ks
def updL : List (List Int × AV) → List Int → AV → List (List Int × AV)
  | [], ks, x => [(ks, x)]
  | (k, y) :: r, ks, x => if ks = k then (k, x) :: r else (k, y) :: updL r ks x
/-- a map's entries -/
inductive MRel (w : World) (S : Nat → Prop) (n : Nat) : List (List Int × AV) → List MapEntry → Prop where
  | nil : MRel w S n [] []
  | cons {k : List Int} {y : AV} {e : MapEntry} {r : List (List Int × AV)} {es : List MapEntry} (hl : k.length = n) (hk : e.key = kV k) (hv : VRel w S y e.val) (h : MRel w S n r es) : MRel w S n ((k, y) :: r) (e :: es)
theorem MRel.mono {w w' : World} {S S' : Nat → Prop} {n : Nat} {l : List (List Int × AV)} {es : List MapEntry} (h : MRel w S n l es) (hS : ∀ b, S b → S' b) (hw : ∀ b, S b → w'.heap[b]? = w.heap[b]?) : MRel w' S' n l es := by
  induction h with
  | nil => exact .nil
  | cons hl hk hv _ ih => exact .cons hl hk (hv.mono hS hw) ih
/-- a map -/
def mapO (g n : Nat) (l : List (List Int × AV)) : Ob where
  fp := fun b => b = g
  Φ := fun w S => ∃ es clock, w.heap[g]? = some (.map es clock) ∧ MRel w S n l es.toList
  lt := fun ⟨es, c, h, _⟩ b hb => by rw [hb]; exact (Array.getElem?_eq_some_iff.1 h).1
  keep := fun ⟨es, c, h, hr⟩ _ _ _ _ hS hw hg => ⟨es, c, (hg g rfl).trans h, hr.mono hS hw⟩
abbrev mapE (g n : Nat) (l : List (List Int × AV)) : Ent := .ob (mapO g n l)

section
variable {P : Program} {mt : TypeId} {n : Nat}
theorem findAsk (M : MK P mt n) {w0 : World} {S : Nat → Prop} {l : List (List Int × AV)} {es : List MapEntry} (h : MRel w0 S n l es) (ks : List Int) (hks : ks.length = n) : ∀ j,
    (lookL l ks = none ∧ (∀ y, updL l ks y = l ++ [(ks, y)]) ∧ ∀ w, (Instr.findAsking M.kt (kV ks) es j).run P w = .ok none w) ∨
    (∃ i e y, lookL l ks = some y ∧ es[i]? = some e ∧ e.key = kV ks ∧ VRel w0 S y e.val ∧ (∀ w, (Instr.findAsking M.kt (kV ks) es j).run P w = .ok (some (j + i, e.val)) w) ∧
      ∀ x v, VRel w0 S x v → ∀ e', e'.key = kV ks → e'.val = v → MRel w0 S n (updL l ks x) (es.set i e')) := by
  induction h with
  | nil => exact fun j => .inl ⟨rfl, fun _ => rfl, fun w => by simp [Instr.findAsking]⟩
  | @cons k y e r es hl hk hv hr ih =>
    intro j
    have he : ∀ w, (Op.equal M.kt (kV ks) e.key).run P w = .ok (decide (ks = k)) w := fun w => by rw [hk]; exact M.eq ks k w hks hl
    by_cases hh : ks = k
    · subst hh
      refine .inr ⟨0, e, y, by simp [lookL], rfl, hk, hv, fun w => by simp [Instr.findAsking, he], fun x v hx e' h1 h2 => ?_⟩
      simp only [updL, if_true, List.set_cons_zero]
      exact .cons hl h1 (h2 ▸ hx) hr
    · rcases ih (j + 1) with ⟨h1, h2, h3⟩ | ⟨i, e1, y1, h1, h2, h3, h4, h5, h6⟩
      · exact .inl ⟨by simp [lookL, hh, h1], fun x => by simp [updL, hh, h2], fun w => by simp [Instr.findAsking, he, hh, h3]⟩
      · refine .inr ⟨i + 1, e1, y1, by simp [lookL, hh, h1], by simpa using h2, h3, h4, fun w => ?_, fun x v hx e' h7 h8 => ?_⟩
        · have e4 : j + (i + 1) = j + 1 + i := by omega
          rw [e4]
          simp [Instr.findAsking, he, hh, h5]
        · simp only [updL, hh, if_false, List.set_cons_succ]
          exact .cons hl hk hv (h6 x v hx e' h7 h8)
theorem findK (M : MK P mt n) {w0 : World} {S : Nat → Prop} {l : List (List Int × AV)} {es : List MapEntry} (h : MRel w0 S n l es) (ks : List Int) (hks : ks.length = n) :
    (lookL l ks = none ∧ (∀ y, updL l ks y = l ++ [(ks, y)]) ∧ ∀ w, (Instr.findKey M.kt (kV ks) es).run P w = .ok none w) ∨
    (∃ i e y, lookL l ks = some y ∧ es[i]? = some e ∧ e.key = kV ks ∧ VRel w0 S y e.val ∧ (∀ w, (Instr.findKey M.kt (kV ks) es).run P w = .ok (some (i, e.val)) w) ∧
      ∀ x v, VRel w0 S x v → ∀ e', e'.key = kV ks → e'.val = v → MRel w0 S n (updL l ks x) (es.set i e')) := by
  cases es with
  | nil =>
    cases h
    exact .inl ⟨rfl, fun _ => rfl, fun w => by simp [Instr.findKey, run_underlying M.hk, Instr.findNow]⟩
  | cons e es =>
    have hn : Instr.findNow (.struct M.fs) (kV ks) (e :: es) 0 = none := by simp [Instr.findNow, Instr.sameNow]
    rcases findAsk M h ks hks 0 with ⟨h1, h2, h3⟩ | ⟨i, e1, y1, h1, h2, h3, h4, h5, h6⟩
    · exact .inl ⟨h1, h2, fun w => by simp [Instr.findKey, run_underlying M.hk, hn, h3]⟩
    · refine .inr ⟨i, e1, y1, h1, h2, h3, h4, fun w => ?_, h6⟩
      have := h5 w
      rw [Nat.zero_add] at this
      simp [Instr.findKey, run_underlying M.hk, hn, this]
theorem MRel.push {w : World} {S : Nat → Prop} {l : List (List Int × AV)} {es : List MapEntry} (h : MRel w S n l es) {ks : List Int} {y : AV} {e : MapEntry} (hl : ks.length = n) (hk : e.key = kV ks) (hv : VRel w S y e.val) : MRel w S n (l ++ [(ks, y)]) (es ++ [e]) := by
  induction h with
  | nil => exact .cons hl hk hv .nil
  | cons a b c _ ih => exact .cons a b c ih
theorem bits_key (ks : List Int) : Instr.sameBits 10000 (kV ks) (kV ks) = true := by
  simp only [Instr.sameBits, kV, List.size_toArray, beq_self_eq_true, Bool.true_and, List.all_eq_true]
  intro x hx
  obtain ⟨i, hi, rfl⟩ := List.getElem_of_mem hx
  simp [Instr.sameBits]

variable {N : Nat} {o : Oper} {md : Nat → Prop} {s : Slots} {h : List Ent} {K : Slots → List Ent → Prop}
/-- v, ok := m[k] -/
def lkA (z : AV) : Option AV → AV
  | some y => .tup [y, .v (.bool true)]
  | none => .tup [z, .v (.bool false)]
theorem lv_lookup2 (M : MK P mt n) {m k : Operand} {g : Nat} {ks : List Int} {l : List (List Int × AV)} {y : AV} (ho : o.op = .lookup mt m k true) (hm : evA s m = some (.v (.map (some g)))) (hk : evA s k = some (kA ks)) (hks : ks.length = n) (hmem : Mem1 (mapE g n l) h)
    (hy : lkA M.zA (lookL l ks) = y) : LV P o s h (some (mapE g n l)) y := fun w S a hs hh => by
  subst hy
  obtain ⟨es, clock, hg, hr⟩ := hh.ent _ hmem.mem
  have hkv := kA_inv (hs.eval hk)
  rcases findK M hr ks hks with ⟨h1, _, h3⟩ | ⟨i, e, y1, h1, h2, h3, h4, h5, _⟩
  · refine ⟨.tuple #[M.z, .bool false], g, fun w' hw' => ?_, ?_, .inr ⟨_, rfl, hmem.mem, rfl⟩⟩
    · rw [hg] at hw'
      have hc := fun e w => M.chk e ks w hks
      simp [execOp, ho, hs.lit hm, hkv, Instr.lookup, run_underlying M.hm, MapKept.run_getObj_map hw', hc, h3, M.hz, Result.andThen]
    · rw [h1]
      exact .tup (vs := [_, _]) rfl (VRels.cons (M.hzA w S) (.cons (.v _) .nil)).2
  · refine ⟨.tuple #[e.val, .bool true], g, fun w' hw' => ?_, ?_, .inr ⟨_, rfl, hmem.mem, rfl⟩⟩
    · rw [hg] at hw'
      have hc := fun e w => M.chk e ks w hks
      simp [execOp, ho, hs.lit hm, hkv, Instr.lookup, run_underlying M.hm, MapKept.run_getObj_map hw', hc, h5, Result.andThen]
    · rw [h1]
      exact .tup (vs := [_, _]) rfl (VRels.cons h4 (.cons (.v _) .nil)).2
/-- m[k] -/
theorem lv_lookup1 (M : MK P mt n) {m k : Operand} {g : Nat} {ks : List Int} {l : List (List Int × AV)} {y : AV} (ho : o.op = .lookup mt m k false) (hm : evA s m = some (.v (.map (some g)))) (hk : evA s k = some (kA ks)) (hks : ks.length = n) (hmem : Mem1 (mapE g n l) h)
    (hy : (lookL l ks).getD M.zA = y) : LV P o s h (some (mapE g n l)) y := fun w S a hs hh => by
  subst hy
  obtain ⟨es, clock, hg, hr⟩ := hh.ent _ hmem.mem
  have hkv := kA_inv (hs.eval hk)
  rcases findK M hr ks hks with ⟨h1, _, h3⟩ | ⟨i, e, y1, h1, h2, h3, h4, h5, _⟩
  · refine ⟨M.z, g, fun w' hw' => ?_, ?_, .inr ⟨_, rfl, hmem.mem, rfl⟩⟩
    · rw [hg] at hw'
      have hc := fun e w => M.chk e ks w hks
      simp [execOp, ho, hs.lit hm, hkv, Instr.lookup, run_underlying M.hm, MapKept.run_getObj_map hw', hc, h3, M.hz, Result.andThen]
    · rw [h1]; exact M.hzA w S
  · refine ⟨e.val, g, fun w' hw' => ?_, ?_, .inr ⟨_, rfl, hmem.mem, rfl⟩⟩
    · rw [hg] at hw'
      have hc := fun e w => M.chk e ks w hks
      simp [execOp, ho, hs.lit hm, hkv, Instr.lookup, run_underlying M.hm, MapKept.run_getObj_map hw', hc, h5, Result.andThen]
    · rw [h1]; exact h4
theorem aop_makeMap {d : Nat} (n : Nat) (ho : o.op = .makeMap mt none) (hd : o.dst = some d) (hN : Nat.blt d N = true) (hK : ∀ g, K ((d, .v (.map (some g))) :: s) (mapE g n [] :: h)) : AOp P N o md s h K := fun B w S a hs Kr Qr hk => by
  have hrun : (execOp a.eval o).run P w = .ok (.value (.map (some w.heap.size))) (w.alloc (.map #[] 0)) := by
    simp [execOp, ho, Instr.makeMap]
  unfold wpX
  rw [hd] at hk
  rw [hrun, Oper.uponIn_value, hd]
  have hold := fun b hb => alloc_old w (.map #[] 0) b hb
  refine hk _ _ S _ _ (hK w.heap.size) ((hs.push (w' := w.alloc (.map #[] 0)) (grw_alloc _ _) (e := mapE w.heap.size n []) ⟨#[], 0, by rw [heap_alloc_new], .nil⟩ (fun g hg => by have : g = w.heap.size := hg; omega)).put (.v _) (blt_lt hN)) (upd_push (by simp) hold)
theorem aop_mapUpdate (M : MK P mt n) {m k x : Operand} {g : Nat} {ks : List Int} {y : AV} {l l' : List (List Int × AV)} {h' : List Ent} (ho : o.op = .mapUpdate mt m k x) (hm : evA s m = some (.v (.map (some g)))) (hk : evA s k = some (kA ks)) (hks : ks.length = n) (hx : evA s x = some y) (hd : o.dst = none)
    (hp : Repl h (mapE g n l) (mapE g n l') h') (hl : updL l ks y = l') (hmd : md g) (hK : K s h') : AOp P N o md s h K := fun B w S a hs Kr Qr hk0 => by
  subst hl
  have hmem : mapE g n l ∈ h := by obtain ⟨p, q, rfl, _⟩ := hp.split; simp
  obtain ⟨es, clock, hg, hr⟩ := hs.heap.ent _ hmem
  have hkv := kA_inv (hs.slots.eval hk)
  have hxv := hs.slots.eval hx
  generalize hev : a.eval x = v at *
  have hlt : g < w.heap.size := (Array.getElem?_eq_some_iff.1 hg).1
  have hc := fun e w => M.chk e ks w hks
  have fin : ∀ ob : Obj, (∃ es' c', ob = .map es' c' ∧ MRel w S n (updL l ks y) es'.toList) → Sim B N (w.putObj g ob) S s h' a ∧ Upd w S (w.putObj g ob) S md := by
    rintro ob ⟨es', c', rfl, hr'⟩
    have hoth : ∀ b, b ≠ g → (w.putObj g (.map es' c')).heap[b]? = w.heap[b]? := fun b hb => World.putObj_heap_other hb
    have hgrw : Grw w (w.putObj g (.map es' c')) (mapE g n l).blk := ⟨rfl, rfl, rfl, by simp, fun b hb hn => hoth b (fun e => hn e)⟩
    exact ⟨hs.repl hp hgrw ⟨es', c', World.putObj_heap_same hlt, hr'.mono (fun _ h => h) (fun b hb => hoth b (fun e => hs.heap.off _ hmem g rfl (e ▸ hb)))⟩ (fun g' hg' => .inl hg'), ⟨by simp, fun b hb hn => hoth b (fun e => hn (e ▸ hmd)), fun _ h => h⟩⟩
  unfold wpX
  rw [hd] at hk0
  rcases findK M hr ks hks with ⟨h1, h2, h3⟩ | ⟨i, e, y1, h1, h2, h3, h4, h5, h6⟩
  · have hrun : (execOp a.eval o).run P w = .ok .skip (w.putObj g (.map (es.push { key := kV ks, val := v, born := clock }) (clock + 1))) := by
      simp [execOp, ho, hs.slots.lit hm, hkv, hev, Instr.mapUpdate, run_underlying M.hm, MapKept.run_getObj_map hg, hc, h3, MapKept.run_setObj_map _ hg, Result.andThen, World.putObj]
    rw [hrun, Oper.uponIn_skip, hd]
    obtain ⟨f1, f2⟩ := fin (.map (es.push { key := kV ks, val := v, born := clock }) (clock + 1)) ⟨_, _, rfl, by rw [h2, Array.toList_push]; exact hr.push hks rfl hxv⟩
    exact hk0 _ _ S _ _ hK f1.putNone f2
  · have hi' : es[i]? = some e := by simpa using h2
    have hrun : (execOp a.eval o).run P w = .ok .skip (w.putObj g (.map (es.modify i fun e => { e with key := kV ks, val := v }) clock)) := by
      simp [execOp, ho, hs.slots.lit hm, hkv, hev, Instr.mapUpdate, run_underlying M.hm, MapKept.run_getObj_map hg, hc, h5, hi', h3, Instr.keyThatStays, bits_key, MapKept.run_setObj_map _ hg, Result.andThen, World.putObj]
    rw [hrun, Oper.uponIn_skip, hd]
    have hmod : (es.modify i fun e => { e with key := kV ks, val := v }).toList = es.toList.set i { e with key := kV ks, val := v } := by
      rw [Array.toList_modify]
      apply List.ext_getElem?
      intro j
      rw [List.getElem?_modify, List.getElem?_set]
      by_cases hj : i = j
      · subst hj
        have : i < es.toList.length := (List.getElem?_eq_some_iff.1 h2).1
        rw [h2]
        simp [show i < es.size by simpa using this]
      · simp [hj]
    obtain ⟨f1, f2⟩ := fin (.map (es.modify i fun e => { e with key := kV ks, val := v }) clock) ⟨_, _, rfl, by rw [hmod]; exact h6 y v hxv _ rfl rfl⟩
    exact hk0 _ _ S _ _ hK f1.putNone f2
end
end Go.Tl
