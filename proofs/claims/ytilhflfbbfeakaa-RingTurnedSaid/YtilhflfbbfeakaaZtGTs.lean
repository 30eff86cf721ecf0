/- Joined texts: Rp, Rq, GMp, GTs. -/
import Derived.Test.YtilhflfbbfeakaaZtGs
import Derived.Test.YtilhflfbbfeakaaTL
import Derived.Test.YtilhflfbbfeakaaZtRa
import Derived.Test.YtilhflfbbfeakaaTz
import Derived.Test.YtilhflfbbfeakaaTlp
import Derived.Test.YtilhflfbbfeakaaGTx
import Derived.Laws.CopyRow
section
namespace Go.Proofs.Ytilhflfbbfeakaa
open Go Go.RowKit Go.Tl
set_option linter.unusedVariables false
set_option linter.unusedSimpArgs false
set_option maxRecDepth 100000
set_option maxHeartbeats 4000000
attribute [local irreducible] AWP AWL AOp PV LV AWT AWE
/-- a number for each contract, from 0 to its Number -/
def listedB (b : BookD) (l : List Int) : Bool := decide (l.length = b.cons.length) && (List.range l.length).all fun k => inB (l.getD k 0) 0 (b.cons.getD k default).num
theorem listed_iff {b : BookD} {l : List Int} : listedB b l = true ↔ l.length = b.cons.length ∧ ∀ k, k < l.length → 0 ≤ l.getD k 0 ∧ l.getD k 0 ≤ (b.cons.getD k default).num := by
  simp only [listedB, Bool.and_eq_true, decide_eq_true_eq, List.all_eq_true, List.mem_range, inB_iff]
/-- a setting off -/
def offB (b : BookD) (l : List Int) : Bool := listedB b l && (netL b fun i => l.getD i 0).all fun n => decide (n = 0)
theorem listed_bd {b : BookD} {l : List Int} (hv : VBook b) (h : listedB b l = true) : ∀ i, i < b.cons.length → -1000000 ≤ l.getD i 0 ∧ l.getD i 0 ≤ 1000000 := fun i hi => by
  obtain ⟨e, h⟩ := listed_iff.1 h
  have := h i (by omega)
  have := hv.num i hi
  omega
end Go.Proofs.Ytilhflfbbfeakaa
end
section
namespace Go.Proofs.Ytilhflfbbfeakaa
open Go Go.RowKit Go.Tl
set_option linter.unusedVariables false
set_option linter.unusedSimpArgs false
set_option maxRecDepth 100000
set_option maxHeartbeats 4000000
attribute [local irreducible] AWP AWL AOp PV LV AWT AWE
/-- heights -/
def highB (b : BookD) (hs : List Int) : Bool := decide ((hs.length : Int) = b.houses) && hs.all fun x => inB x (-10) 10
/-- what a contract adds -/
def upN (c : ConD) (hs : List Int) : Int := c.num * max 0 (1 + hs.getD c.frm.toNat 0 - hs.getD c.to.toNat 0)
/-- what the heights prove, by the first contracts -/
def provN (b : BookD) (hs : List Int) : Nat → Int
  | 0 => 0
  | k + 1 => provN b hs k + upN (b.cons.getD k default) hs
theorem high_iff {b : BookD} {hs : List Int} : highB b hs = true ↔ (hs.length : Int) = b.houses ∧ ∀ k, k < hs.length → -10 ≤ hs.getD k 0 ∧ hs.getD k 0 ≤ 10 := by
  simp only [highB, Bool.and_eq_true, decide_eq_true_eq, all_getD (d := (0 : Int)), inB_iff]
theorem off_list_bd {b : BookD} {l : List Int} (hv : VBook b) (h : listedB b l = true) : ∀ x ∈ l, -1000000000 ≤ x ∧ x ≤ 1000000000 := fun x hx => by
  obtain ⟨j, hj, rfl⟩ := List.getElem_of_mem hx
  have hll := (listed_iff.1 h).1
  have := listed_bd hv h j (by omega)
  simp only [List.getD_eq_getElem?_getD, hj, List.getElem?_eq_getElem, Option.getD_some] at this
  omega
section
variable {c : ConD} {hs : List Int} {a : Int} {cp : Bool} {g : Nat} {x : Ent} {u2 u8 : AV} {jf jt : Nat}
end
end Go.Proofs.Ytilhflfbbfeakaa
end
section
section
namespace Go.Tl
open Go Go.RowKit
set_option linter.unusedVariables false
set_option linter.unusedSimpArgs false
/-- where a key lies among the entries -/
def findG {κ : Type} [DecidableEq κ] (k : κ) : List κ → List MapEntry → Nat → Option (Nat × Value)
  | k' :: ks, e :: es, i => if k = k' then some (i, e.val) else findG k ks es (i + 1)
  | _, _, _ => none
inductive KRel {κ : Type} (kv : κ → Value) : List κ → List MapEntry → Prop where
  | nil : KRel kv [] []
  | cons {k : κ} {e : MapEntry} {ks : List κ} {es : List MapEntry} (hk : e.key = kv k) (h : KRel kv ks es) : KRel kv (k :: ks) (e :: es)
structure MG (P : Program) (mt : TypeId) (κ : Type) [DecidableEq κ] where
  kt : TypeId
  vt : TypeId
  z : Value
  zA : AV
  kv : κ → Value
  ka : κ → AV
  hm : P.underlying mt = some (.map kt vt)
  inv : ∀ w S k v, VRel w S (ka k) v → v = kv k
  hz : ∀ w, (zeroValue vt).run P w = .ok z w
  hzA : ∀ w S, VRel w S zA z
  chk : ∀ e k w, (Instr.checkKey e 10000 kt (kv k)).run P w = .ok () w
  bits : ∀ k, Instr.sameBits 10000 (kv k) (kv k) = true
  find : ∀ k ks es w, KRel kv ks es → (Instr.findKey kt (kv k) es).run P w = .ok (findG k ks es 0) w
section
variable {κ : Type} [DecidableEq κ]
def lookG : List (κ × AV) → κ → Option AV
  | [], _ => none
  | (k, y) :: r, ks => if ks = k then some y else lookG r ks
def updG : List (κ × AV) → κ → AV → List (κ × AV)
  | [], ks, x => [(ks, x)]
  | (k, y) :: r, ks, x => if ks = k then (k, x) :: r else (k, y) :: updG r ks x
inductive GRel (w : World) (S : Nat → Prop) (kv : κ → Value) : List (κ × AV) → List MapEntry → Prop where
  | nil : GRel w S kv [] []
  | cons {k : κ} {y : AV} {e : MapEntry} {r : List (κ × AV)} {es : List MapEntry} (hk : e.key = kv k) (hv : VRel w S y e.val) (h : GRel w S kv r es) : GRel w S kv ((k, y) :: r) (e :: es)
omit [DecidableEq κ] in
theorem GRel.mono {w w' : World} {S S' : Nat → Prop} {kv : κ → Value} {l : List (κ × AV)} {es : List MapEntry} (h : GRel w S kv l es) (hS : ∀ b, S b → S' b) (hw : ∀ b, S b → w'.heap[b]? = w.heap[b]?) : GRel w' S' kv l es := by
  induction h with
  | nil => exact .nil
  | cons hk hv _ ih => exact .cons hk (hv.mono hS hw) ih
omit [DecidableEq κ] in
theorem GRel.keys {w : World} {S : Nat → Prop} {kv : κ → Value} {l : List (κ × AV)} {es : List MapEntry} (h : GRel w S kv l es) : KRel kv (l.map (·.1)) es := by
  induction h with
  | nil => exact .nil
  | cons hk _ _ ih => exact .cons hk ih
omit [DecidableEq κ] in
theorem GRel.push {w : World} {S : Nat → Prop} {kv : κ → Value} {l : List (κ × AV)} {es : List MapEntry} (h : GRel w S kv l es) {ks : κ} {y : AV} {e : MapEntry} (hk : e.key = kv ks) (hv : VRel w S y e.val) : GRel w S kv (l ++ [(ks, y)]) (es ++ [e]) := by
  induction h with
  | nil => exact .cons hk hv .nil
  | cons b c _ ih => exact .cons b c ih
theorem findsG {w : World} {S : Nat → Prop} {kv : κ → Value} {l : List (κ × AV)} {es : List MapEntry} (h : GRel w S kv l es) (k : κ) : ∀ j,
    (lookG l k = none ∧ (∀ y, updG l k y = l ++ [(k, y)]) ∧ findG k (l.map (·.1)) es j = none) ∨
    (∃ i e y, lookG l k = some y ∧ es[i]? = some e ∧ e.key = kv k ∧ VRel w S y e.val ∧ findG k (l.map (·.1)) es j = some (j + i, e.val) ∧
      ∀ x v, VRel w S x v → ∀ e', e'.key = kv k → e'.val = v → GRel w S kv (updG l k x) (es.set i e')) := by
  induction h with
  | nil => exact fun j => .inl ⟨rfl, fun _ => rfl, rfl⟩
  | @cons k' y e r es hk hv hr ih =>
    intro j
    by_cases hh : k = k'
    · subst hh
      refine .inr ⟨0, e, y, by simp [lookG], rfl, hk, hv, by simp [findG], fun x v hx e' h1 h2 => ?_⟩
      simp only [updG, if_true, List.set_cons_zero]
      exact .cons h1 (h2 ▸ hx) hr
    · rcases ih (j + 1) with ⟨h1, h2, h3⟩ | ⟨i, e1, y1, h1, h2, h3, h4, h5, h6⟩
      · exact .inl ⟨by simp [lookG, hh, h1], fun x => by simp [updG, hh, h2], by simp [findG, hh, h3]⟩
      · refine .inr ⟨i + 1, e1, y1, by simp [lookG, hh, h1], by simpa using h2, h3, h4, ?_, fun x v hx e' h7 h8 => ?_⟩
        · have e4 : j + (i + 1) = j + 1 + i := by omega
          rw [e4]
          simp [findG, hh, h5]
        · simp only [updG, hh, if_false, List.set_cons_succ]
          exact .cons hk hv (h6 x v hx e' h7 h8)
variable {P : Program} {mt : TypeId} {N : Nat} {o : Oper} {md : Nat → Prop} {s : Slots} {h : List Ent} {K : Slots → List Ent → Prop}
end
end Go.Tl
end
section
namespace Go.Tl
open Go Go.RowKit
set_option linter.unusedVariables false
set_option linter.unusedSimpArgs false
section
variable {κ : Type} [DecidableEq κ]
def updF (f : κ → AV) (k : κ) (y : AV) : κ → AV := fun q => if q = k then y else f q
theorem look_upd (y : AV) (k q : κ) : ∀ l : List (κ × AV), lookG (updG l k y) q = if q = k then some y else lookG l q
  | [] => by simp [updG, lookG]
  | (k', y') :: r => by
    have ih := look_upd y k q r
    by_cases c : k = k'
    · subst c
      simp only [updG, lookG, if_true]
      by_cases e : q = k
      · rw [if_pos e, if_pos e]
      · rw [if_neg e, if_neg e, if_neg e]
    · simp only [updG, lookG, if_neg c]
      by_cases e : q = k'
      · subst e
        rw [if_pos rfl, if_neg (fun h => c h.symm), if_pos rfl]
      · rw [if_neg e, if_neg e, ih]
theorem look_snoc (y : AV) (k q : κ) : ∀ l : List (κ × AV), lookG l k = none → lookG (l ++ [(k, y)]) q = if q = k then some y else lookG l q
  | [], _ => by simp [lookG]
  | (k', y') :: r, h => by
    simp only [lookG] at h
    by_cases c : k = k'
    · rw [if_pos c] at h; cases h
    rw [if_neg c] at h
    have ih := look_snoc y k q r h
    simp only [List.cons_append, lookG]
    by_cases e : q = k'
    · subst e
      rw [if_pos rfl, if_neg (fun h => c h.symm), if_pos rfl]
    · rw [if_neg e, if_neg e, ih]
theorem find_snoc (k : κ) (kv : κ → Value) {e : MapEntry} : ∀ {ks : List κ} {es : List MapEntry} (j : Nat), KRel kv ks es → findG k ks es j = none → findG k (ks ++ [k]) (es ++ [e]) j = some (j + es.length, e.val)
  | _, _, j, .nil, _ => by simp [findG]
  | k' :: ks, e' :: es, j, .cons hk h, hf => by
    simp only [findG] at hf
    by_cases c : k = k'
    · rw [if_pos c] at hf; cases hf
    rw [if_neg c] at hf
    have := find_snoc k kv (e := e) (j + 1) h hf
    simp only [List.cons_append, findG, if_neg c, List.length_cons]
    rw [this, show j + 1 + es.length = j + (es.length + 1) by omega]
theorem arr_find (es : Array MapEntry) (p : MapEntry → Bool) : es.findIdx? p = es.toList.findIdx? p := by cases es; simp
structure Borns (es : List MapEntry) (clock : Nat) : Prop where
  lt : ∀ e ∈ es, e.born < clock
  nd : (es.map (·.born)).Nodup
theorem borns_snoc {es : List MapEntry} {clock : Nat} (h : Borns es clock) {e : MapEntry} (he : e.born = clock) : Borns (es ++ [e]) (clock + 1) := by
  refine ⟨fun x hx => ?_, ?_⟩
  · rcases List.mem_append.1 hx with hx | hx
    · have := h.lt x hx; omega
    · obtain rfl := List.mem_singleton.1 hx; omega
  · rw [List.map_append, List.nodup_append]
    refine ⟨h.nd, by simp, fun a ha b hb => ?_⟩
    obtain ⟨x, hx, rfl⟩ := List.mem_map.1 ha
    have := h.lt x hx
    simp at hb
    omega
theorem borns_set {es : List MapEntry} {clock i : Nat} (h : Borns es clock) {e e' : MapEntry} (hi : es[i]? = some e) (he : e'.born = e.born) : Borns (es.set i e') clock := by
  have hm : (es.set i e').map (·.born) = es.map (·.born) := by
    refine List.ext_getElem? fun j => ?_
    rw [List.getElem?_map, List.getElem?_map, List.getElem?_set]
    by_cases c : i = j
    · subst c
      obtain ⟨hl, hv⟩ := List.getElem?_eq_some_iff.1 hi
      rw [if_pos rfl, if_pos hl, hi]
      simp [he]
    · rw [if_neg c]
  refine ⟨fun x hx => ?_, by rw [hm]; exact h.nd⟩
  rcases List.mem_or_eq_of_mem_set hx with hx | hx
  · exact h.lt x hx
  · subst hx
    rw [he]
    exact h.lt e (List.mem_of_getElem? hi)
theorem find_born {n : Nat} : ∀ {es : List MapEntry} {i : Nat} {e : MapEntry}, (es.map (·.born)).Nodup → es[i]? = some e → e.born = n → es.findIdx? (fun e => (e.born : Int) == (n : Int)) = some i
  | [], i, e, _, hi, _ => by simp at hi
  | x :: es, 0, e, _, hi, hn => by
    simp at hi
    subst hi
    simp [List.findIdx?_cons, hn]
  | x :: es, i + 1, e, hd, hi, hn => by
    simp only [List.map_cons, List.nodup_cons] at hd
    simp only [List.getElem?_cons_succ] at hi
    have h1 := find_born hd.2 hi hn
    have hne : x.born ≠ n := fun h => hd.1 (List.mem_map.2 ⟨e, List.mem_of_getElem? hi, by rw [hn, h]⟩)
    have : ((x.born : Int) == (n : Int)) = false := by simpa using (fun h => hne (Int.ofNat.inj h))
    simp [List.findIdx?_cons, this, h1]
/-- a map by its function; `st`: the entry of a key that is being written has this number -/
def mapFO (kv : κ → Value) (z : AV) (g : Nat) (f : κ → AV) (st : Option (κ × Nat)) : Ob where
  fp := fun b => b = g
  Φ := fun w S => ∃ es clock l, w.heap[g]? = some (.map es clock) ∧ GRel w S kv l es.toList ∧ (∀ k, (lookG l k).getD z = f k) ∧ Borns es.toList clock ∧
    ∀ k n, st = some (k, n) → ∃ i e, findG k (l.map (·.1)) es.toList 0 = some (i, e.val) ∧ es.toList[i]? = some e ∧ e.born = n
  lt := fun ⟨es, c, l, h, _⟩ b hb => by rw [hb]; exact (Array.getElem?_eq_some_iff.1 h).1
  keep := fun ⟨es, c, l, h, hr, hrest⟩ _ _ _ _ hS hw hg => ⟨es, c, l, (hg g rfl).trans h, hr.mono hS hw, hrest⟩
abbrev mapF (kv : κ → Value) (z : AV) (g : Nat) (f : κ → AV) (st : Option (κ × Nat)) : Ent := .ob (mapFO kv z g f st)
variable {P : Program} {mt : TypeId} {N : Nat} {o : Oper} {md : Nat → Prop} {s : Slots} {h : List Ent} {K : Slots → List Ent → Prop}
theorem lv_lookupF (M : MG P mt κ) {m x : Operand} {g : Nat} {k : κ} {kA : AV} {f : κ → AV} {y : AV} {st : Option (κ × Nat)} (ho : o.op = .lookup mt m x false) (hm : evA s m = some (.v (.map (some g)))) (hk : evA s x = some kA) (hka : M.ka k = kA) (hmem : Mem1 (mapF M.kv M.zA g f st) h)
    (hy : f k = y) : LV P o s h (some (mapF M.kv M.zA g f st)) y := fun w S a hs hh => by
  subst hy hka
  obtain ⟨es, clock, l, hg, hr, hf', _⟩ := hh.ent _ hmem.mem
  have hkv := M.inv _ _ _ _ (hs.eval hk)
  have hf := fun w => M.find k _ _ w hr.keys
  have hfk := hf' k
  rcases findsG hr k 0 with ⟨h1, _, h3⟩ | ⟨i, e, y1, h1, h2, h3, h4, h5, _⟩
  · refine ⟨M.z, g, fun w' hw' => ?_, ?_, .inr ⟨_, rfl, hmem.mem, rfl⟩⟩
    · rw [hg] at hw'
      have hc := fun e w => M.chk e k w
      simp [execOp, ho, hs.lit hm, hkv, Instr.lookup, run_underlying M.hm, MapKept.run_getObj_map hw', hc, hf, h3, M.hz, Result.andThen]
    · rw [← hfk, h1]
      exact M.hzA w S
  · refine ⟨e.val, g, fun w' hw' => ?_, ?_, .inr ⟨_, rfl, hmem.mem, rfl⟩⟩
    · rw [hg] at hw'
      have hc := fun e w => M.chk e k w
      simp [execOp, ho, hs.lit hm, hkv, Instr.lookup, run_underlying M.hm, MapKept.run_getObj_map hw', hc, hf, h5, Result.andThen]
    · rw [← hfk, h1]
      exact h4
theorem aop_makeMapF (kv : κ → Value) (z : AV) {d : Nat} (ho : o.op = .makeMap mt none) (hd : o.dst = some d) (hN : Nat.blt d N = true) (hK : ∀ g, K ((d, .v (.map (some g))) :: s) (mapF kv z g (fun _ => z) none :: h)) : AOp P N o md s h K := fun B w S a hs Kr Qr hk => by
  have hrun : (execOp a.eval o).run P w = .ok (.value (.map (some w.heap.size))) (w.alloc (.map #[] 0)) := by
    simp [execOp, ho, Instr.makeMap]
  unfold wpX
  rw [hd] at hk
  rw [hrun, Oper.uponIn_value, hd]
  have hold := fun b hb => alloc_old w (.map #[] 0) b hb
  refine hk _ _ S _ _ (hK w.heap.size) ((hs.push (w' := w.alloc (.map #[] 0)) (grw_alloc _ _) (e := mapF kv z w.heap.size (fun _ => z) none) ⟨#[], 0, [], by rw [heap_alloc_new], .nil, fun _ => rfl, ⟨by simp, by simp⟩, fun k n h => (by cases h)⟩ (fun g hg => by have : g = w.heap.size := hg; omega)).put (.v _) (blt_lt hN)) (upd_push (by simp) hold)
theorem fin_mapF {B : Base} {w : World} {S : Nat → Prop} {a : Act} {kv : κ → Value} {z : AV} {g : Nat} {f f' : κ → AV} {st st' : Option (κ × Nat)} {h' : List Ent} (hs : Sim B N w S s h a) (hp : Repl h (mapF kv z g f st) (mapF kv z g f' st') h') (hmd : md g) {es' : Array MapEntry} {c' : Nat} {l' : List (κ × AV)}
    (h1 : GRel w S kv l' es'.toList) (h2 : ∀ k, (lookG l' k).getD z = f' k) (h3 : Borns es'.toList c') (h4 : ∀ k n, st' = some (k, n) → ∃ i e, findG k (l'.map (·.1)) es'.toList 0 = some (i, e.val) ∧ es'.toList[i]? = some e ∧ e.born = n) :
    Sim B N (w.putObj g (.map es' c')) S s h' a ∧ Upd w S (w.putObj g (.map es' c')) S md := by
  have hmem : mapF kv z g f st ∈ h := by obtain ⟨p, q, rfl, _⟩ := hp.split; simp
  obtain ⟨es, clock, l, hg, _⟩ := hs.heap.ent _ hmem
  have hlt : g < w.heap.size := (Array.getElem?_eq_some_iff.1 hg).1
  have hoth : ∀ b, b ≠ g → (w.putObj g (.map es' c')).heap[b]? = w.heap[b]? := fun b hb => World.putObj_heap_other hb
  have hgrw : Grw w (w.putObj g (.map es' c')) (mapF kv z g f st).blk := ⟨rfl, rfl, rfl, by simp, fun b hb hn => hoth b (fun e => hn e)⟩
  exact ⟨hs.repl hp hgrw ⟨es', c', l', World.putObj_heap_same hlt, h1.mono (fun _ h => h) (fun b hb => hoth b (fun e => hs.heap.off _ hmem g rfl (e ▸ hb))), h2, h3, h4⟩ (fun g' hg' => .inl hg'), ⟨by simp, fun b hb hn => hoth b (fun e => hn (e ▸ hmd)), fun _ h => h⟩⟩
theorem mod_set {es : Array MapEntry} {i : Nat} {e : MapEntry} (h2 : es.toList[i]? = some e) (q : MapEntry → MapEntry) : (es.modify i q).toList = es.toList.set i (q e) := by
  rw [Array.toList_modify]
  apply List.ext_getElem?
  intro j
  rw [List.getElem?_modify, List.getElem?_set]
  by_cases hj : i = j
  · subst hj
    have : i < es.toList.length := (List.getElem?_eq_some_iff.1 h2).1
    rw [h2]
    simp [show i < es.size by simpa using this]
  · simp [hj]
theorem look_updF {l : List (κ × AV)} {z : AV} {f : κ → AV} (h : ∀ k, (lookG l k).getD z = f k) (k : κ) (y : AV) : ∀ q, (lookG (updG l k y) q).getD z = updF f k y q := fun q => by
  rw [look_upd]
  unfold updF
  by_cases c : q = k
  · rw [if_pos c, if_pos c]; rfl
  · rw [if_neg c, if_neg c]; exact h q
theorem aop_mapUpdateF (M : MG P mt κ) {m kx x : Operand} {g : Nat} {k : κ} {kA : AV} {y : AV} {f f' : κ → AV} {h' : List Ent} (ho : o.op = .mapUpdate mt m kx x) (hm : evA s m = some (.v (.map (some g)))) (hk : evA s kx = some kA) (hka : M.ka k = kA) (hx : evA s x = some y) (hd : o.dst = none)
    (hp : Repl h (mapF M.kv M.zA g f none) (mapF M.kv M.zA g f' none) h') (hl : updF f k y = f') (hmd : md g) (hK : K s h') : AOp P N o md s h K := fun B w S a hs Kr Qr hk0 => by
  subst hl hka
  have hmem : mapF M.kv M.zA g f none ∈ h := by obtain ⟨p, q, rfl, _⟩ := hp.split; simp
  obtain ⟨es, clock, l, hg, hr, hlf, hb, _⟩ := hs.heap.ent _ hmem
  have hkv := M.inv _ _ _ _ (hs.slots.eval hk)
  have hf := fun w => M.find k _ _ w hr.keys
  have hxv := hs.slots.eval hx
  generalize hev : a.eval x = v at *
  have hc := fun e w => M.chk e k w
  have hbk := M.bits k
  unfold wpX
  rw [hd] at hk0
  rcases findsG hr k 0 with ⟨h1, h2, h3⟩ | ⟨i, e, y1, h1, h2, h3, h4, h5, h6⟩
  · have hrun : (execOp a.eval o).run P w = .ok .skip (w.putObj g (.map (es.push { key := M.kv k, val := v, born := clock }) (clock + 1))) := by
      simp [execOp, ho, hs.slots.lit hm, hkv, hev, Instr.mapUpdate, run_underlying M.hm, MapKept.run_getObj_map hg, hc, hf, h3, MapKept.run_setObj_map _ hg, Result.andThen, World.putObj]
    rw [hrun, Oper.uponIn_skip, hd]
    obtain ⟨f1, f2⟩ := fin_mapF hs hp hmd (es' := es.push { key := M.kv k, val := v, born := clock }) (c' := clock + 1) (l' := updG l k y) (by rw [h2, Array.toList_push]; exact hr.push rfl hxv) (look_updF hlf k y) (by rw [Array.toList_push]; exact borns_snoc hb rfl) (fun k n h => (by cases h))
    exact hk0 _ _ S _ _ hK f1.putNone f2
  · have hi' : es[i]? = some e := by simpa using h2
    rw [Nat.zero_add] at h5
    have hrun : (execOp a.eval o).run P w = .ok .skip (w.putObj g (.map (es.modify i fun e => { e with key := M.kv k, val := v }) clock)) := by
      simp [execOp, ho, hs.slots.lit hm, hkv, hev, Instr.mapUpdate, run_underlying M.hm, MapKept.run_getObj_map hg, hc, hf, h5, hi', h3, Instr.keyThatStays, hbk, MapKept.run_setObj_map _ hg, Result.andThen, World.putObj]
    rw [hrun, Oper.uponIn_skip, hd]
    have hmod := mod_set h2 (fun e => { e with key := M.kv k, val := v })
    obtain ⟨f1, f2⟩ := fin_mapF hs hp hmd (es' := es.modify i fun e => { e with key := M.kv k, val := v }) (c' := clock) (l' := updG l k y) (by rw [hmod]; exact h6 y v hxv _ rfl rfl) (look_updF hlf k y) (by rw [hmod]; exact borns_set hb h2 rfl) (fun k n h => (by cases h))
    exact hk0 _ _ S _ _ hK f1.putNone f2
theorem aop_mapEntryF (M : MG P mt κ) {m kx : Operand} {g d : Nat} {k : κ} {kA : AV} {f : κ → AV} {h' : Nat → List Ent} (ho : o.op = .mapEntry mt m kx) (hm : evA s m = some (.v (.map (some g)))) (hk : evA s kx = some kA) (hka : M.ka k = kA) (hd : o.dst = some d) (hN : Nat.blt d N = true)
    (hp : ∀ n : Nat, Repl h (mapF M.kv M.zA g f none) (mapF M.kv M.zA g f (some (k, n))) (h' n)) (hmd : md g) (hK : ∀ n : Nat, K ((d, .tup [f k, .v (.int .i64 n)]) :: s) (h' n)) : AOp P N o md s h K := fun B w S a hs Kr Qr hk0 => by
  subst hka
  have hmem : mapF M.kv M.zA g f none ∈ h := by obtain ⟨p, q, rfl, _⟩ := (hp 0).split; simp
  obtain ⟨es, clock, l, hg, hr, hlf, hb, _⟩ := hs.heap.ent _ hmem
  have hkv := M.inv _ _ _ _ (hs.slots.eval hk)
  have hf := fun w => M.find k _ _ w hr.keys
  have hc := fun e w => M.chk e k w
  have hbk := M.bits k
  have hfk := hlf k
  unfold wpX
  rw [hd] at hk0
  rcases findsG hr k 0 with ⟨h1, h2, h3⟩ | ⟨i, e, y1, h1, h2, h3, h4, h5, h6⟩
  · have hrun : (execOp a.eval o).run P w = .ok (.value (.tuple #[M.z, .int .i64 clock])) (w.putObj g (.map (es.push { key := M.kv k, val := M.z, born := clock }) (clock + 1))) := by
      simp [execOp, ho, hs.slots.lit hm, hkv, Instr.mapEntry, run_underlying M.hm, MapKept.run_getObj_map hg, hc, hf, h3, M.hz, MapKept.run_setObj_map _ hg, Result.andThen, World.putObj, goInt]
    rw [hrun, Oper.uponIn_value, hd]
    have hzf : f k = M.zA := by rw [← hfk, h1]; rfl
    obtain ⟨f1, f2⟩ := fin_mapF hs (hp clock) hmd (es' := es.push { key := M.kv k, val := M.z, born := clock }) (c' := clock + 1) (l' := l ++ [(k, M.zA)]) (by rw [Array.toList_push]; exact hr.push rfl (M.hzA _ _)) (fun q => by
        rw [look_snoc _ _ _ _ h1]
        by_cases c : q = k
        · rw [if_pos c, c, hzf]; rfl
        · rw [if_neg c]; exact hlf q) (by rw [Array.toList_push]; exact borns_snoc hb rfl) (fun k' n h => by
        cases h
        refine ⟨es.toList.length, { key := M.kv k, val := M.z, born := clock }, ?_, by rw [Array.toList_push]; simp, rfl⟩
        rw [List.map_append, Array.toList_push]
        have := find_snoc k M.kv (e := { key := M.kv k, val := M.z, born := clock }) 0 hr.keys h3
        rw [Nat.zero_add] at this
        exact this)
    refine hk0 _ _ S _ _ (hK clock) (f1.put (.tup (vs := [M.z, .int .i64 clock]) rfl fun j x y hx hy => ?_) (blt_lt hN)) f2
    match j with
    | 0 => simp at hx hy; subst hx hy; rw [hzf]; exact M.hzA _ _
    | 1 => simp at hx hy; subst hx hy; exact .v _
    | j + 2 => simp at hx
  · have hi' : es[i]? = some e := by simpa using h2
    rw [Nat.zero_add] at h5
    have hrun : (execOp a.eval o).run P w = .ok (.value (.tuple #[e.val, .int .i64 e.born])) (w.putObj g (.map (es.modify i fun e => { e with key := M.kv k }) clock)) := by
      simp [execOp, ho, hs.slots.lit hm, hkv, Instr.mapEntry, run_underlying M.hm, MapKept.run_getObj_map hg, hc, hf, h5, hi', h3, Instr.keyThatStays, hbk, MapKept.run_setObj_map _ hg, Result.andThen, World.putObj, goInt]
    rw [hrun, Oper.uponIn_value, hd]
    have hmod := mod_set h2 (fun e => { e with key := M.kv k })
    have hsame : es.toList.set i { e with key := M.kv k } = es.toList := by
      rw [← h3]
      obtain ⟨hl, hv⟩ := List.getElem?_eq_some_iff.1 h2
      rw [← hv]
      exact List.set_getElem_self _
    rw [hsame] at hmod
    obtain ⟨f1, f2⟩ := fin_mapF hs (hp e.born) hmd (es' := es.modify i fun e => { e with key := M.kv k }) (c' := clock) (l' := l) (by rw [hmod]; exact hr) hlf (by rw [hmod]; exact hb) (fun k' n h => by
        cases h
        rw [hmod]
        exact ⟨i, e, h5, h2, rfl⟩)
    refine hk0 _ _ S _ _ (hK e.born) (f1.put (.tup (vs := [e.val, .int .i64 e.born]) rfl fun j x y hx hy => ?_) (blt_lt hN)) f2
    have hfy : f k = y1 := by rw [← hfk, h1]; rfl
    match j with
    | 0 =>
      simp at hx hy; subst hx hy; rw [hfy]
      exact h4.mono (fun _ h => h) (fun b hb => World.putObj_heap_other (fun e => hs.heap.off _ hmem g rfl (e ▸ hb)))
    | 1 => simp at hx hy; subst hx hy; exact .v _
    | j + 2 => simp at hx
theorem aop_entryStoreF (M : MG P mt κ) {m sx x : Operand} {g n : Nat} {k : κ} {y : AV} {f f' : κ → AV} {h' : List Ent} (ho : o.op = .entryStore mt m sx x) (hm : evA s m = some (.v (.map (some g)))) (hn : evA s sx = some (.v (.int .i64 n))) (hx : evA s x = some y) (hd : o.dst = none)
    (hp : Repl h (mapF M.kv M.zA g f (some (k, n))) (mapF M.kv M.zA g f' none) h') (hl : updF f k y = f') (hmd : md g) (hK : K s h') : AOp P N o md s h K := fun B w S a hs Kr Qr hk0 => by
  subst hl
  have hmem : mapF M.kv M.zA g f (some (k, n)) ∈ h := by obtain ⟨p, q, rfl, _⟩ := hp.split; simp
  obtain ⟨es, clock, l, hg, hr, hlf, hb, hst⟩ := hs.heap.ent _ hmem
  obtain ⟨i0, e0, t1, t2, t3⟩ := hst k n rfl
  have hxv := hs.slots.eval hx
  have hnv := hs.slots.lit hn
  generalize hev : a.eval x = v at *
  unfold wpX
  rw [hd] at hk0
  rcases findsG hr k 0 with ⟨h1, h2, h3⟩ | ⟨i, e, y1, h1, h2, h3, h4, h5, h6⟩
  · rw [h3] at t1; cases t1
  rw [Nat.zero_add] at h5
  rw [h5] at t1
  obtain rfl : i = i0 := by injection t1 with t; injection t
  rw [h2] at t2
  obtain rfl : e = e0 := by injection t2
  have hfi : es.findIdx? (fun e => (e.born : Int) == (n : Int)) = some i := by
    have := find_born hb.nd h2 t3
    rw [arr_find]
    exact this
  have hrun : (execOp a.eval o).run P w = .ok .skip (w.putObj g (.map (es.modify i fun e => { e with val := v }) clock)) := by
    simp [execOp, ho, hs.slots.lit hm, hnv, hev, Instr.entryStore, MapKept.run_getObj_map hg, asInt, asIntOf, hfi, MapKept.run_setObj_map _ hg, Result.andThen, World.putObj]
  rw [hrun, Oper.uponIn_skip, hd]
  have hmod := mod_set h2 (fun e => { e with val := v })
  obtain ⟨f1, f2⟩ := fin_mapF hs hp hmd (es' := es.modify i fun e => { e with val := v }) (c' := clock) (l' := updG l k y) (by rw [hmod]; exact h6 y v hxv _ h3 rfl) (look_updF hlf k y) (by rw [hmod]; exact borns_set hb h2 rfl) (fun k n h => (by cases h))
  exact hk0 _ _ S _ _ hK f1.putNone f2
end
end Go.Tl
end
section
namespace Go.Proofs.Ytilhflfbbfeakaa
open Go Go.RowKit Go.Tl
set_option linter.unusedVariables false
set_option linter.unusedSimpArgs false
def ikV (k : Int) : Value := .int .i64 k
theorem now_i (k : Int) : ∀ (ks : List Int) (es : List MapEntry) (j : Nat), KRel ikV ks es → Instr.findNow (.int .i64) (ikV k) es j = some (findG k ks es j)
  | _, _, j, .nil => rfl
  | k' :: ks, e :: es, j, .cons hk h => by
    simp only [Instr.findNow, hk, ikV, Instr.sameNow, if_true, findG]
    have ih := now_i k ks es (j + 1) h
    by_cases c : k = k'
    · subst c; simp
    · rw [if_neg c]
      have : (k == k') = false := by simpa using c
      simp only [this]
      exact ih
noncomputable def Mi : MG Try.prog 124 Int where
  kt := 3
  vt := 4
  z := .bool false
  zA := boolA false
  kv := ikV
  ka := intA
  hm := by kernel_rfl
  inv := fun w S k v h => h.lit_inv
  hz := fun w => by kernel_rfl
  hzA := fun w S => .v _
  chk := fun e k w => by kernel_rfl
  bits := fun k => by simp [ikV, Instr.sameBits]
  find := fun k ks es w h => by
    have h3 : Try.prog.underlying 3 = some (.int .i64) := Try.underlying3
    simp [Instr.findKey, run_underlying h3, now_i k ks es 0 h]
def akV (k : Nat × Bool) : Value := .agg #[.int .i64 k.1, .bool k.2]
theorem akey_ok (e : Bool) (a : Int) (b : Bool) (w : World) : (Instr.checkKey e 10000 118 (.agg #[.int .i64 a, .bool b])).run Try.prog w = .ok () w := by kernel_rfl
theorem eq_arc (a c : Int) (b d : Bool) (w : World) : (Op.equal 118 (.agg #[.int .i64 a, .bool b]) (.agg #[.int .i64 c, .bool d])).run Try.prog w = .ok (a == c && b == d) w := by
  have h1 : Try.prog.stoodInHeld 118 = false := by kernel_rfl
  have h2 : Try.prog.underlying 118 = some (.struct (Try.prog.fieldsOf 118)) := by kernel_rfl
  have hfo : (Try.prog.fieldsOf 118).toList = (match Try.prog.underlying 118 with | some (.struct fs) => fs.toList | _ => []) := by kernel_rfl
  unfold Op.equal Op.maxDepth
  rw [run_equalIn_struct w 9999 118 _ _ h2 h1, hfo, Try.underlying118]
  have p1 : ∀ (x y : Value) (w : World), (part 3 #[x, y] 0).run Try.prog w = .ok x w := fun x y w => by kernel_rfl
  have p2 : ∀ (x y : Value) (w : World), (part 4 #[x, y] 1).run Try.prog w = .ok y w := fun x y w => by kernel_rfl
  have q : ∀ (a b : Int) (w : World), (Op.equalIn 9999 3 (.int .i64 a) (.int .i64 b)).run Try.prog w = .ok (a == b) w := fun a b w => run_equalIn_int w 9998 3 .i64 .i64 a b Try.underlying3
  have q2 : ∀ (a b : Bool) (w : World), (Op.equalIn 9999 4 (.bool a) (.bool b)).run Try.prog w = .ok (a == b) w := fun a b w => run_equalIn_bool w 9998 4 a b Try.underlying4
  cases h1 : (a == c) <;> cases h2 : (b == d) <;> simp [Op.eqFields, p1, p2, q, q2, h1, h2]
theorem ask_a (k : Nat × Bool) : ∀ (ks : List (Nat × Bool)) (es : List MapEntry) (j : Nat) (w : World), KRel akV ks es → (Instr.findAsking 118 (akV k) es j).run Try.prog w = .ok (findG k ks es j) w
  | _, _, j, w, .nil => by simp [Instr.findAsking, findG]
  | k' :: ks, e :: es, j, w, .cons hk h => by
    have ih := ask_a k ks es (j + 1) w h
    have he : ∀ w, (Op.equal 118 (akV k) e.key).run Try.prog w = .ok (decide (k = k')) w := fun w => by
      rw [hk]
      have := eq_arc k.1 k'.1 k.2 k'.2 w
      show (Op.equal 118 (.agg #[.int .i64 k.1, .bool k.2]) (.agg #[.int .i64 k'.1, .bool k'.2])).run Try.prog w = _
      rw [this]
      obtain ⟨a, b⟩ := k
      obtain ⟨c, d⟩ := k'
      by_cases e1 : a = c
      · subst e1
        by_cases e2 : b = d
        · subst e2; simp
        · simp [e2]
      · have : ((a : Int) == (c : Int)) = false := beq_false_of_ne (fun x => e1 (Int.ofNat.inj x))
        simp [this, e1]
    by_cases c : k = k'
    · subst c; simp [Instr.findAsking, he, findG]
    · simp [Instr.findAsking, he, findG, c, ih]
noncomputable def Ma : MG Try.prog 114 (Nat × Bool) where
  kt := 118
  vt := 3
  z := .int .i64 0
  zA := intA 0
  kv := akV
  ka := fun k => .ag [intA k.1, boolA k.2]
  hm := by kernel_rfl
  inv := fun w S k v h => by
    obtain ⟨vs, rfl, hv⟩ := ag_inv h
    obtain ⟨v1, us, rfl, k1, hv⟩ := rels1 hv
    obtain ⟨v2, us, rfl, k2, hv⟩ := rels1 hv
    obtain rfl := rels0 hv
    rw [k1.lit_inv, k2.lit_inv]
    rfl
  hz := fun w => by kernel_rfl
  hzA := fun w S => .v _
  chk := fun e k w => akey_ok e k.1 k.2 w
  bits := fun k => by
    obtain ⟨a, b⟩ := k
    simp [akV, Instr.sameBits]
  find := fun k ks es w h => by
    have h2 : Try.prog.underlying 118 = some (.struct (Try.prog.fieldsOf 118)) := by kernel_rfl
    cases h with
    | nil => simp [Instr.findKey, run_underlying h2, Instr.findNow, findG]
    | @cons k' e ks es hk h =>
      have hn : Instr.findNow (.struct (Try.prog.fieldsOf 118)) (akV k) (e :: es) 0 = none := by simp [Instr.findNow, Instr.sameNow]
      have := ask_a k _ _ 0 w (.cons hk h)
      simp [Instr.findKey, run_underlying h2, hn, this]
end Go.Proofs.Ytilhflfbbfeakaa
end
end
section
section
namespace Go.Tl
open Go Go.RowKit
set_option linter.unusedVariables false
set_option linter.unusedSimpArgs false
theorem wpX_mono2 {P : Program} {o : Oper} {a : Act} {w : World} {K K' : Act → World → Prop} {Q Q' : Exit → Act → World → Prop} (h : ∀ a w, K a w → K' a w) (hq : ∀ e a w, Q e a w → Q' e a w) (hh : wpX P o a w K Q) : wpX P o a w K' Q' := by
  unfold wpX at *
  generalize (execOp a.eval o).run P w = r at *
  cases r with
  | ok x w' =>
    cases x <;> simp only [Oper.uponIn] at hh ⊢ <;>
      first
        | exact h _ _ hh
        | exact hq _ _ _ hh
        | exact ⟨hh.1, CallsIn.mono hh.2 (fun e w'' he => by cases e <;> first | exact h _ _ he | exact hq _ _ _ he | exact ⟨he.choose, he.choose_spec.choose, hq _ _ _ he.choose_spec.choose_spec⟩ | exact he)⟩
        | exact ⟨hh.1, RowsIn.mono hh.2 (fun _ _ he => h _ _ he)⟩
        | exact ⟨hh.1, RoundIn.mono hh.2 (fun e w'' he => by cases e <;> first | exact h _ _ he | exact hq _ _ _ he | exact ⟨he.choose, he.choose_spec.choose, hq _ _ _ he.choose_spec.choose_spec⟩ | exact he)⟩
        | exact hh
  | halt x w' => cases x <;> simp only [Oper.uponIn] at hh ⊢ <;> first | exact hh | exact hq _ _ _ hh
theorem wpLX_mono {P : Program} {ops : Array Oper} {Q Q' : Exit → Act → World → Prop} (hq : ∀ e a w, Q e a w → Q' e a w) : ∀ (l : List Oper) (a : Act) (w : World), wpLX P ops Q l a w → wpLX P ops Q' l a w
  | [], a, w, h => hq _ _ _ h
  | o :: rest, a, w, h => by
    simp only [wpLX] at h ⊢
    split
    · rename_i c
      rw [if_pos c] at h
      exact wpX_mono2 (fun a w h => wpLX_mono hq rest a w h) hq h
    · rename_i c
      rw [if_neg c] at h
      exact wpLX_mono hq rest _ w h
theorem awl_mono {P : Program} {N : Nat} {ops : Array Oper} {l : List Oper} {Q Q' : Exit → Slots → List Ent → Prop} {s : Slots} {h : List Ent} (hq : ∀ s' h', Q .normal s' h' → Q' .normal s' h') (H : AWL P N ops l Q s h) : AWL P N ops l Q' s h := fun B w S a hs =>
  wpLX_mono (fun e a' w' ⟨he, S', s', h', h1, h2⟩ => by subst he; exact ⟨rfl, S', s', h', hq _ _ h1, h2⟩) l a w (H B w S a hs)
theorem awl_cut {P : Program} {N : Nat} {ro : Option Nat} {ops : Array Oper} {l : List Oper} {y : Code} {Q Q' : Exit → Slots → List Ent → Prop} {s : Slots} {h : List Ent} (M : Slots → List Ent → Prop) (H1 : AWL P N ops l (cutQ M) s h) (H2 : ∀ s' h', M s' h' → AWP P N ro y Q s' h') : AWL P N ops l (thenQ (AWP P N ro y Q) Q') s h :=
  awl_mono (fun s1 h1 ⟨_, s', h', hs, hh, hM⟩ => awp_weak hs hh (H2 s' h' hM)) H1
end Go.Tl
end
section
namespace Go.Tl
open Go Go.RowKit
set_option linter.unusedVariables false
set_option linter.unusedSimpArgs false
theorem pick_comm {α : Type} {x y : α} {c c0 : List α} (h : Pick c y c0) : ∀ {c1 : List α}, Pick c0 x c1 → ∃ c', Pick c x c' ∧ Pick c' y c1 := by
  induction h with
  | here => exact fun h2 => ⟨_, .there h2, .here⟩
  | there h ih =>
    intro c1 h2
    cases h2 with
    | here => exact ⟨_, .here, h⟩
    | there h2 =>
      obtain ⟨c', k1, k2⟩ := ih h2
      exact ⟨_, .there k1, .there k2⟩
theorem SubH.pick {b c : List Ent} (h : SubH b c) : ∀ {x : Ent} {b' : List Ent}, Pick b x b' → ∃ c', Pick c x c' ∧ SubH b' c' := by
  induction h with
  | nil => intro x b' h; cases h
  | cons hp H ih =>
    intro x b' h
    cases h with
    | here => exact ⟨_, hp, H⟩
    | there h =>
      obtain ⟨c1, k1, k2⟩ := ih h
      obtain ⟨c', k3, k4⟩ := pick_comm hp k1
      exact ⟨c', k3, .cons k4 k2⟩
theorem SubH.trans {a b c : List Ent} (h : SubH a b) : SubH b c → SubH a c := by
  induction h generalizing c with
  | nil => exact fun _ => .nil
  | cons hp H ih =>
    intro h2
    obtain ⟨c', k1, k2⟩ := h2.pick hp
    exact .cons k1 (ih k2)
theorem awp_cutY {P : Program} {N : Nat} {ro : Option Nat} {id k : Nat} {x : Code} {I : Nat → List Ent → Prop} {X : Nat → Exit → List Ent → Prop} {s : Slots} {h : List Ent} (M : Slots → List Ent → Prop) (H1 : AWP P N ro x (cutQ M) s h) (H2 : ∀ s' h', M s' h' → ∃ h2, SubH h2 h' ∧ I (k + 1) h2) :
    AWP P N ro x (blockQ id (stepQ I X k)) s h :=
  awp_mono H1 fun e s1 h1 ⟨he, s', h', hs, hh, hM⟩ => by
    subst he
    obtain ⟨h2, k1, k2⟩ := H2 s' h' hM
    exact ⟨h2, k1.trans hh, k2⟩
/-- a region, within a range over a function too -/
def findQ (n : Nat) : Code → Option (Array Oper)
  | .region id ops _ => if Nat.beq id n then some ops else none
  | .seq a b => orR (findQ n a) (findQ n b)
  | .block _ a => findQ n a
  | .loop a => findQ n a
  | .scope a => findQ n a
  | .cond _ a b => orR (findQ n a) (findQ n b)
  | .rangeFunc _ _ a b => orR (findQ n a) (findQ n b)
  | _ => none
def regG (f : Func) (n : Nat) : Option (Array Oper) := match f.body with
  | some c => findQ n c
  | none => none
theorem own_con {hc h : List Ent} {L D : Nat} {r r' : Loop} {s : Slots} {g : Nat} : Own [.ob (conOb L D r s (hc ++ h))] g ↔ Own (.ob (conOb L D r' s h) :: hc) g := by
  constructor
  · rintro ⟨e, he, hg⟩
    obtain rfl := List.mem_singleton.1 he
    rcases hg with ⟨e, he, hg⟩ | hg
    · rcases List.mem_append.1 he with he | he
      · exact ⟨e, List.mem_cons_of_mem _ he, hg⟩
      · exact ⟨_, List.mem_cons_self, .inl ⟨e, he, hg⟩⟩
    · exact ⟨_, List.mem_cons_self, .inr hg⟩
  · rintro ⟨e, he, hg⟩
    refine ⟨_, List.mem_singleton.2 rfl, ?_⟩
    rcases List.mem_cons.1 he with rfl | he
    · rcases hg with ⟨e, he, hg⟩ | hg
      · exact .inl ⟨e, List.mem_append_right _ he, hg⟩
      · exact .inr hg
    · exact .inl ⟨e, List.mem_append_left _ he, hg⟩
theorem con_pack {w : World} {S : Nat → Prop} {hc h : List Ent} {L D : Nat} {r : Loop} {s : Slots} (hp : h.Pairwise Apart) (hL : ¬ Own h L) (hD : ¬ Own h D) (H : HRel w S (.ob (conOb L D r s h) :: hc)) :
    HRel w S [.ob (conOb L D r s (hc ++ h))] ∧ (hc ++ h).Pairwise Apart ∧ ¬ Own (hc ++ h) L ∧ ¬ Own (hc ++ h) D := by
  have hs := List.pairwise_cons.1 H.sep
  obtain ⟨h1, h2, h3, h4⟩ := H.ent _ List.mem_cons_self
  have hno : ∀ g, Own hc g → ¬ (Own h g ∨ g = L ∨ g = D) := fun g ⟨e, he, hg⟩ hx => hs.1 e he g hx hg
  refine ⟨⟨fun e he => ?_, fun e he g hg => ?_, List.pairwise_singleton _ _⟩, List.pairwise_append.2 ⟨hs.2, hp, fun e he e' he' g hg hg' => hno g ⟨e, he, hg⟩ (.inl ⟨e', he', hg'⟩)⟩, ?_, ?_⟩
  · obtain rfl := List.mem_singleton.1 he
    refine ⟨fun e he => ?_, h2, h3, h4⟩
    rcases List.mem_append.1 he with he | he
    · exact H.ent e (List.mem_cons_of_mem _ he)
    · exact h1 e he
  · obtain rfl := List.mem_singleton.1 he
    obtain ⟨e2, he2, hg2⟩ := own_con.1 ⟨_, List.mem_singleton.2 rfl, hg⟩
    exact H.off e2 he2 g hg2
  · rintro ⟨e, he, hg⟩
    rcases List.mem_append.1 he with he | he
    · exact hno L ⟨e, he, hg⟩ (.inr (.inl rfl))
    · exact hL ⟨e, he, hg⟩
  · rintro ⟨e, he, hg⟩
    rcases List.mem_append.1 he with he | he
    · exact hno D ⟨e, he, hg⟩ (.inr (.inr rfl))
    · exact hD ⟨e, he, hg⟩
theorem con_unpack {w : World} {S : Nat → Prop} {hc h : List Ent} {L D : Nat} {r : Loop} {s : Slots} (hp : (hc ++ h).Pairwise Apart) (hL : ¬ Own (hc ++ h) L) (hD : ¬ Own (hc ++ h) D) (H : HRel w S [.ob (conOb L D r s (hc ++ h))]) :
    HRel w S (.ob (conOb L D r s h) :: hc) ∧ h.Pairwise Apart ∧ ¬ Own h L ∧ ¬ Own h D := by
  have hs := List.pairwise_append.1 hp
  obtain ⟨h1, h2, h3, h4⟩ := H.ent _ List.mem_cons_self
  have hc' : ∀ g, Own hc g → Own (hc ++ h) g := fun g ⟨e, he, hg⟩ => ⟨e, List.mem_append_left _ he, hg⟩
  have hh' : ∀ g, Own h g → Own (hc ++ h) g := fun g ⟨e, he, hg⟩ => ⟨e, List.mem_append_right _ he, hg⟩
  refine ⟨⟨fun e he => ?_, fun e he g hg => ?_, List.pairwise_cons.2 ⟨fun e he g hg hg' => ?_, hs.1⟩⟩, hs.2.1, fun h => hL (hh' _ h), fun h => hD (hh' _ h)⟩
  · rcases List.mem_cons.1 he with rfl | he
    · exact ⟨fun e he => h1 e (List.mem_append_right _ he), h2, h3, h4⟩
    · exact h1 e (List.mem_append_left _ he)
  · obtain ⟨e2, he2, hg2⟩ := (own_con (r := r) (r' := r)).2 ⟨e, he, hg⟩
    exact H.off e2 he2 g hg2
  · rcases hg with ⟨e', he', hg⟩ | rfl | rfl
    · exact hs.2.2 e he e' he' g hg' hg
    · exact hL (hc' _ ⟨e, he, hg'⟩)
    · exact hD (hc' _ ⟨e, he, hg'⟩)
/-- what an iterator comes to that looks at what the body owns -/
def ISpecS (P : Program) (f : Nat) (args : AV → List AV) (hc : List Ent) (Pre Full : List (List AV) → Prop) : Prop :=
  ∀ (l : Nat) (C : List (List AV) → Ob → Prop) (X : List (List AV) → List Ent → Prop),
    (∀ pre y, Pre (pre ++ [y]) → ∀ o, C pre o → YCall P l y (.ob o :: hc) (fun r h' => (r = boolA true ∧ ∃ o', h' = .ob o' :: hc ∧ C (pre ++ [y]) o') ∨ (r = boolA false ∧ X (pre ++ [y]) h'))) →
    ∀ o, C [] o → ACall P f (args (.v (.func (.yield l) #[] #[]))) (.ob o :: hc) (fun r h' => (∃ L o', Full L ∧ C L o' ∧ h' = .ob o' :: hc) ∨ ∃ L, Pre L ∧ X L h')
section
variable {P : Program} {N : Nat} {s : Slots} {h : List Ent} {Q : Exit → Slots → List Ent → Prop}
theorem awp_rangeFuncS (T : TT P) {g : Operand} {ps : Array Tmp} {assign body : Code} {yc : AV} {f : Nat} {fs cs : List AV} {hc hf : List Ent} {Pre Full : List (List AV) → Prop} (I : List (List AV) → List Ent → Prop) (X : List (List AV) → Exit → List Ent → Prop)
    (hcal : evA s g = some yc) (hcl : Callee yc f fs cs) (hfn : T.fns.any (Nat.beq f) = true) (it : ISpecS P f (fun y => fs ++ [y] ++ cs) hc Pre Full) (hsub : SubH (hc ++ hf) h) (hI : I [] hf)
    (hes : ∀ pre y, Pre (pre ++ [y]) → y.length = ps.size) (hpn : ps.toList.all (fun p => Nat.blt p N) = true)
    (hround : ∀ l pre y h', Pre (pre ++ [y]) → I pre h' → AWP P N (some l) assign (fun e s1 h1 => e = .normal ∧ AWP P N (some l) body (stepQ (nx (fun h => ∃ h', h = hc ++ h' ∧ I pre h') (fun h => ∃ h', h = hc ++ h' ∧ I (pre ++ [y]) h')) (fun _ => X (pre ++ [y])) 0) s1 h1) (paramsS ps.toList y s) (hc ++ h'))
    (hdone : ∀ L h', Full L → I L h' → Q .normal s (hc ++ h')) (hret : ∀ L h', Pre L → X L .ret h' → Q .ret s h') (hexit : ∀ L id h', Pre L → X L (.exit id) h' → Q (.exit id) s h') : AWP P N none (.rangeFunc g ps assign body) Q s h := by
  refine awp_rangeFuncC T (hc := []) (hf := hc ++ hf) (Pre := Pre) (Full := Full) (fun pre h => ∃ h', h = hc ++ h' ∧ I pre h') X hcal hcl hfn ?_ hsub ⟨hf, rfl, hI⟩ hes hpn (fun l pre y h' hp hI => ?_) (fun L h' hF hI => ?_) hret hexit
  case refine_2 =>
    obtain ⟨h0, e, hI⟩ := hI
    subst e
    exact hround l pre y h0 hp hI
  case refine_3 =>
    obtain ⟨h0, e, hI⟩ := hI
    subst e
    exact hdone L h0 hF hI
  intro D L rec hy o ho
  obtain ⟨h, ⟨h0, e, hI0⟩, hp, hL, hD, rfl⟩ := ho
  subst e
  have hs := List.pairwise_append.1 hp
  have hL0 : ¬ Own h0 L := fun ⟨e, he, hg⟩ => hL ⟨e, List.mem_append_right _ he, hg⟩
  have hD0 : ¬ Own h0 D := fun ⟨e, he, hg⟩ => hD ⟨e, List.mem_append_right _ he, hg⟩
  have C := it L (fun pre o => conC L D rec s (fun _ => I pre) 0 o) (fun pre h' => ∃ o', h' = [.ob o'] ∧ conX L D rec s (fun _ => X pre) 0 o') (fun pre y hpre o hC w S vs hlt hrel hvs => by
    obtain ⟨h1, hI1, hp1, hL1, hD1, rfl⟩ := hC
    obtain ⟨hrel2, k1, k2, k3⟩ := con_pack hp1 hL1 hD1 hrel
    obtain ⟨fn, tmps, assign', body', e, hr⟩ := hy pre y hpre _ ⟨hc ++ h1, ⟨h1, rfl, hI1⟩, k1, k2, k3, rfl⟩ w S vs hlt hrel2 hvs
    refine ⟨fn, tmps, assign', body', e, hr.mono fun e w' ⟨v, S', r, h', e1, ⟨o', eh, hq⟩, hvr, E, hlt', hr', hl'⟩ => ?_⟩
    subst eh
    have E' : Ext ⟨w, S, Own (.ob (conOb L D (rec .ready none) s h1) :: hc)⟩ w' S' := ⟨E.os, E.tape, E.output, E.size, fun b hb hn => E.keep b hb (fun ho => hn (own_con.1 ho)), E.stab, fun b hb => by
      rcases E.new b hb with h | h | h
      · exact .inl h
      · exact .inr (.inl h)
      · exact .inr (.inr (own_con.1 h))⟩
    rcases hq with ⟨rfl, h2, ⟨h3, eh, hI3⟩, q1, q2, q3, rfl⟩ | ⟨rfl, hX⟩
    · subst eh
      obtain ⟨hr2, p1, p2, p3⟩ := con_unpack q1 q2 q3 hr'
      refine ⟨v, S', _, _, e1, .inl ⟨rfl, _, rfl, h3, hI3, p1, p2, p3, rfl⟩, hvr, E', hlt', hr2, fun e he g hg => ?_⟩
      obtain ⟨e2, he2, hg2⟩ := (own_con (r := rec .ready none) (r' := rec .ready none)).2 ⟨e, he, hg⟩
      rcases hl' e2 he2 g hg2 with h | h
      · exact .inl (own_con.1 h)
      · exact .inr h
    · refine ⟨v, S', _, _, e1, .inr ⟨rfl, o', rfl, hX⟩, hvr, E', hlt', hr', fun e he g hg => ?_⟩
      rcases hl' e he g hg with h | h
      · exact .inl (own_con.1 h)
      · exact .inr h) _ ⟨h0, hI0, hs.2.1, hL0, hD0, rfl⟩
  intro w S vs hlt hrel hvs
  obtain ⟨hrel2, _⟩ := con_unpack hp hL hD hrel
  refine (C w S vs hlt hrel2 hvs).mono fun e w' ⟨v, S', r, h', e1, hq, hvr, E, hlt', hr', hl'⟩ => ?_
  have E' : Ext ⟨w, S, Own [.ob (conOb L D (rec .ready none) s (hc ++ h0))]⟩ w' S' := ⟨E.os, E.tape, E.output, E.size, fun b hb hn => E.keep b hb (fun ho => hn (own_con.2 ho)), E.stab, fun b hb => by
    rcases E.new b hb with h | h | h
    · exact .inl h
    · exact .inr (.inl h)
    · exact .inr (.inr (own_con.2 h))⟩
  rcases hq with ⟨L', o', hF, ⟨h3, hI3, q1, q2, q3, rfl⟩, rfl⟩ | ⟨L', hPr, o', rfl, hX⟩
  · obtain ⟨hr2, p1, p2, p3⟩ := con_pack q1 q2 q3 hr'
    refine ⟨v, S', r, _, e1, ⟨_, rfl, .inl ⟨L', hF, _, ⟨h3, rfl, hI3⟩, p1, p2, p3, rfl⟩⟩, hvr, E', hlt', hr2, fun e he g hg => ?_⟩
    obtain ⟨e2, he2, hg2⟩ := own_con.1 ⟨e, he, hg⟩
    rcases hl' e2 he2 g hg2 with h | h
    · exact .inl (own_con.2 h)
    · exact .inr h
  · refine ⟨v, S', r, _, e1, ⟨o', rfl, .inr ⟨L', hPr, hX⟩⟩, hvr, E', hlt', hr', fun e he g hg => ?_⟩
    rcases hl' e he g hg with h | h
    · exact .inl (own_con.2 h)
    · exact .inr h
end
end Go.Tl
end
section
namespace Go.Tl
open Go Go.RowKit
set_option linter.unusedVariables false
set_option linter.unusedSimpArgs false
theorem flat_ones {α : Type} : ∀ l : List α, (l.map fun x => [x]).flatten = l
  | [] => rfl
  | x :: l => by simp [flat_ones l]
section
variable {P : Program} {N : Nat} {o : Oper} {md : Nat → Prop} {s : Slots} {h h1 : List Ent} {K : Slots → List Ent → Prop}
theorem aop_copy_ca (T : TT P) {t t' d e bt n m c c2 g g2 : Nat} {x y : Operand} {T2 : TypeId} {cs2 : List AV} {rows : List (List AV)} {h' : List Ent} (ho : o.op = .call { callee := .builtin .copy, args := #[x, y], argTypes := #[t, t'] }) (hd : o.dst = some d) (hN : Nat.blt d N = true) (ht : f2 T.elm t = some (e, 1, bt))
    (hx : evA s x = some (.v (.slice (some ⟨g, 0, none⟩) n c))) (hy : evA s y = some (.v (.slice (some ⟨g2, 0, none⟩) m c2))) (hm2 : Mem1 (.cl g2 T2 cs2) h) (hp : Repl h (.rw (.slice (some ⟨g, 0, none⟩) n c) e 1 rows) (.rw (.slice (some ⟨g, 0, none⟩) n c) e 1 ((cs2.take n).map fun x => [x])) h') (hn : rows.length = n) (hl2 : cs2.length = m) (hnm : n ≤ m) (hone : cs2.all oneA = true)
    (hmd : md g) (hK : K ((d, intA (n : Nat)) :: s) h') : AOp P N o md s h K := fun B w S a hs Kr Qr hk => by
  obtain ⟨j, hund, hj, hjs, hjb, hne⟩ := T.elm_at ht
  have hmem : Ent.rw (.slice (some ⟨g, 0, none⟩) n c) e 1 rows ∈ h := by obtain ⟨p, q, rfl, _⟩ := hp.split; simp
  obtain ⟨xs, hown, hr, hlr⟩ := hs.heap.ent _ hmem
  obtain ⟨vs2, hvs2, hr2⟩ := hs.heap.ent _ hm2.mem
  rcases hown.2 with ⟨e0, _⟩ | ⟨g', cap, cur, e0, hb0, hg, hcap, hml, hsz, htk⟩
  · simp at e0
  simp at e0
  obtain ⟨rfl, hlen, rfl⟩ := e0
  subst hn
  have hv2l : vs2.length = m := by rw [← hr2.1]; exact hl2
  have hrt : VRels w S (cs2.take rows.length) (vs2.take rows.length) := hr2.take _
  have hones := ones_rel hrt (fun cc hcc => List.all_eq_true.1 hone cc (List.mem_of_mem_take hcc))
  have htl : (vs2.take rows.length).length = rows.length := by rw [List.length_take]; omega
  have hrun0 := run_copy_row (P := P) w t t' o.type e g 0 rows.length c ⟨g2, 0, none⟩ m c2 cur e (vs2.take rows.length) hund (by rw [hj]; simp [hjs]) hg (by rw [htl]; exact (Nat.min_eq_right hnm).symm) (fun q u hq => by
    have hq2 : q < rows.length := by
      rcases Nat.lt_or_ge q rows.length with h | h
      · exact h
      · rw [List.getElem?_eq_none (by omega)] at hq; cases hq
    rw [List.getElem?_take_of_lt hq2] at hq
    rw [Addr.add_lit]
    simp [World.cell?, hvs2, hq]) (by rw [htl, hsz]; omega) hones
  rw [htl] at hrun0
  have hrun : (execOp a.eval o).run P w = .ok (.value (.int .i64 (rows.length : Int))) (w.setRow g (cur.toList.take 0 ++ vs2.take rows.length ++ cur.toList.drop (0 + rows.length)).toArray) := by
    simp only [execOp, ho, resolve, List.map_toArray, List.map_cons, List.map_nil, hs.slots.lit hx, hs.slots.lit hy]
    simp [invoke, builtin, hrun0, goInt, IntKind.wrap_i64]
  unfold wpX
  rw [hd] at hk
  rw [hrun, Oper.uponIn_value, hd]
  generalize hnew : (cur.toList.take 0 ++ vs2.take rows.length ++ cur.toList.drop (0 + rows.length)).toArray = new at *
  have hgw := grown_setRow w g new
  have hnl : new.toList = vs2.take rows.length ++ cur.toList.drop rows.length := by rw [← hnew]; simp
  have hrl : ((cs2.take rows.length).map fun x => [x]).length = rows.length := by rw [List.length_map, List.length_take]; omega
  have hcs : ∀ b, S b → (w.setRow g new).heap[b]? = w.heap[b]? := fun b hb => setRow_other w g b _ (fun e => hs.heap.off _ hmem g rfl (by rw [← e]; exact hb))
  refine hk _ _ S _ _ hK ((hs.repl hp (.of hgw (by simp [Ent.blk, Value.ownBlock])) ⟨vs2.take rows.length, ⟨?_, .inr ⟨g, c, new, by rw [hrl], hb0, setRow_heap w g _ _ e _ hg, by rw [hrl]; exact hcap, hml, ?_, ?_⟩⟩, ?_, ?_⟩ (fun g' hg' => .inl hg')).put (.v _) (blt_lt hN)) ⟨by simp, fun b hb hnb => setRow_other w g b _ (fun e => hnb (by rw [e]; exact hmd)), fun _ h => h⟩
  · rw [hrl, htl, Nat.mul_one]
  · have k1 : cur.toList.length = cur.size := Array.length_toList
    have k2 : new.toList.length = rows.length + (cur.toList.length - rows.length) := by rw [hnl, List.length_append, htl, List.length_drop]
    have k3 : new.toList.length = new.size := Array.length_toList
    omega
  · rw [hnl, hrl, Nat.mul_one, List.take_append_of_le_length (by omega), List.take_of_length_le (by omega)]
  · rw [flat_ones]
    exact hrt.mono (fun _ h => h) hcs
  · intro r hr'
    obtain ⟨x, _, rfl⟩ := List.mem_map.1 hr'
    rfl
end
end Go.Tl
end
end
