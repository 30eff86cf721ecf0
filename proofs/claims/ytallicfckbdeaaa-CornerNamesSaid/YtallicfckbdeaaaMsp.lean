/- Maps as lists of entries; those keyed by spots. -/
import Derived.Test.YtallicfckbdeaaaTL
import Derived.Test.YtallicfckbdeaaaCa
namespace Go.Tl
open Go Go.RowKit
set_option linter.unusedVariables false
set_option linter.unusedSimpArgs false
/-- where a key lies among the entries -/
def findG {κ : Type} [DecidableEq κ] (k : κ) : List κ → List MapEntry → Nat → Option (Nat × Value)
  | k' :: ks, e :: es, i => if k = k' then some (i, e.val) else findG k ks es (i + 1)
  | _, _, _ => none
inductive KRel {κ : Type} (kv : κ → Value) : List κ → List MapEntry → Prop where
  | nil : KRel kv [] []
  | cons {k : κ} {e : MapEntry} {ks : List κ} {es : List MapEntry} (hk : e.key = kv k) (h : KRel kv ks es) : KRel kv (k :: ks) (e :: es)
structure MG (P : Program) (mt : TypeId) (κ : Type) [DecidableEq κ] where
  kt : TypeId
  vt : TypeId
  z : Value
  zA : AV
  kv : κ → Value
  ka : κ → AV
  hm : P.underlying mt = some (.map kt vt)
  inv : ∀ w S k v, VRel w S (ka k) v → v = kv k
  hz : ∀ w, (zeroValue vt).run P w = .ok z w
  hzA : ∀ w S, VRel w S zA z
  chk : ∀ e k w, (Instr.checkKey e 10000 kt (kv k)).run P w = .ok () w
  bits : ∀ k, Instr.sameBits 10000 (kv k) (kv k) = true
  find : ∀ k ks es w, KRel kv ks es → (Instr.findKey kt (kv k) es).run P w = .ok (findG k ks es 0) w
section
variable {κ : Type} [DecidableEq κ]
def lookG : List (κ × AV) → κ → Option AV
  | [], _ => none
  | (k, y) :: r, ks => if ks = k then some y else lookG r ks
def updG : List (κ × AV) → κ → AV → List (κ × AV)
  | [], ks, x => [(ks, x)]
  | (k, y) :: r, ks, x => if ks = k then (k, x) :: r else (k, y) :: updG r ks x
inductive GRel (w : World) (S : Nat → Prop) (kv : κ → Value) : List (κ × AV) → List MapEntry → Prop where
  | nil : GRel w S kv [] []
  | cons {k : κ} {y : AV} {e : MapEntry} {r : List (κ × AV)} {es : List MapEntry} (hk : e.key = kv k) (hv : VRel w S y e.val) (h : GRel w S kv r es) : GRel w S kv ((k, y) :: r) (e :: es)
omit [DecidableEq κ] in
theorem GRel.mono {w w' : World} {S S' : Nat → Prop} {kv : κ → Value} {l : List (κ × AV)} {es : List MapEntry} (h : GRel w S kv l es) (hS : ∀ b, S b → S' b) (hw : ∀ b, S b → w'.heap[b]? = w.heap[b]?) : GRel w' S' kv l es := by
  induction h with
  | nil => exact .nil
  | cons hk hv _ ih => exact .cons hk (hv.mono hS hw) ih
omit [DecidableEq κ] in
theorem GRel.keys {w : World} {S : Nat → Prop} {kv : κ → Value} {l : List (κ × AV)} {es : List MapEntry} (h : GRel w S kv l es) : KRel kv (l.map (·.1)) es := by
  induction h with
  | nil => exact .nil
  | cons hk _ _ ih => exact .cons hk ih
omit [DecidableEq κ] in
theorem GRel.push {w : World} {S : Nat → Prop} {kv : κ → Value} {l : List (κ × AV)} {es : List MapEntry} (h : GRel w S kv l es) {ks : κ} {y : AV} {e : MapEntry} (hk : e.key = kv ks) (hv : VRel w S y e.val) : GRel w S kv (l ++ [(ks, y)]) (es ++ [e]) := by
  induction h with
  | nil => exact .cons hk hv .nil
  | cons b c _ ih => exact .cons b c ih
def mapGO (kv : κ → Value) (g : Nat) (l : List (κ × AV)) : Ob where
  fp := fun b => b = g
  Φ := fun w S => ∃ es clock, w.heap[g]? = some (.map es clock) ∧ GRel w S kv l es.toList
  lt := fun ⟨es, c, h, _⟩ b hb => by rw [hb]; exact (Array.getElem?_eq_some_iff.1 h).1
  keep := fun ⟨es, c, h, hr⟩ _ _ _ _ hS hw hg => ⟨es, c, (hg g rfl).trans h, hr.mono hS hw⟩
abbrev mapG (kv : κ → Value) (g : Nat) (l : List (κ × AV)) : Ent := .ob (mapGO kv g l)
theorem findsG {w : World} {S : Nat → Prop} {kv : κ → Value} {l : List (κ × AV)} {es : List MapEntry} (h : GRel w S kv l es) (k : κ) : ∀ j,
    (lookG l k = none ∧ (∀ y, updG l k y = l ++ [(k, y)]) ∧ findG k (l.map (·.1)) es j = none) ∨
    (∃ i e y, lookG l k = some y ∧ es[i]? = some e ∧ e.key = kv k ∧ VRel w S y e.val ∧ findG k (l.map (·.1)) es j = some (j + i, e.val) ∧
      ∀ x v, VRel w S x v → ∀ e', e'.key = kv k → e'.val = v → GRel w S kv (updG l k x) (es.set i e')) := by
  induction h with
  | nil => exact fun j => .inl ⟨rfl, fun _ => rfl, rfl⟩
  | @cons k' y e r es hk hv hr ih =>
    intro j
    by_cases hh : k = k'
    · subst hh
      refine .inr ⟨0, e, y, by simp [lookG], rfl, hk, hv, by simp [findG], fun x v hx e' h1 h2 => ?_⟩
      simp only [updG, if_true, List.set_cons_zero]
      exact .cons h1 (h2 ▸ hx) hr
    · rcases ih (j + 1) with ⟨h1, h2, h3⟩ | ⟨i, e1, y1, h1, h2, h3, h4, h5, h6⟩
      · exact .inl ⟨by simp [lookG, hh, h1], fun x => by simp [updG, hh, h2], by simp [findG, hh, h3]⟩
      · refine .inr ⟨i + 1, e1, y1, by simp [lookG, hh, h1], by simpa using h2, h3, h4, ?_, fun x v hx e' h7 h8 => ?_⟩
        · have e4 : j + (i + 1) = j + 1 + i := by omega
          rw [e4]
          simp [findG, hh, h5]
        · simp only [updG, hh, if_false, List.set_cons_succ]
          exact .cons hk hv (h6 x v hx e' h7 h8)
variable {P : Program} {mt : TypeId} {N : Nat} {o : Oper} {md : Nat → Prop} {s : Slots} {h : List Ent} {K : Slots → List Ent → Prop}
theorem lv_lookupG (M : MG P mt κ) {m x : Operand} {g : Nat} {k : κ} {kA : AV} {l : List (κ × AV)} {y : AV} (ho : o.op = .lookup mt m x false) (hm : evA s m = some (.v (.map (some g)))) (hk : evA s x = some kA) (hka : M.ka k = kA) (hmem : Mem1 (mapG M.kv g l) h)
    (hy : (lookG l k).getD M.zA = y) : LV P o s h (some (mapG M.kv g l)) y := fun w S a hs hh => by
  subst hy hka
  obtain ⟨es, clock, hg, hr⟩ := hh.ent _ hmem.mem
  have hkv := M.inv _ _ _ _ (hs.eval hk)
  have hf := fun w => M.find k _ _ w hr.keys
  rcases findsG hr k 0 with ⟨h1, _, h3⟩ | ⟨i, e, y1, h1, h2, h3, h4, h5, _⟩
  · refine ⟨M.z, g, fun w' hw' => ?_, ?_, .inr ⟨_, rfl, hmem.mem, rfl⟩⟩
    · rw [hg] at hw'
      have hc := fun e w => M.chk e k w
      simp [execOp, ho, hs.lit hm, hkv, Instr.lookup, run_underlying M.hm, MapKept.run_getObj_map hw', hc, hf, h3, M.hz, Result.andThen]
    · rw [h1]
      exact M.hzA w S
  · refine ⟨e.val, g, fun w' hw' => ?_, ?_, .inr ⟨_, rfl, hmem.mem, rfl⟩⟩
    · rw [hg] at hw'
      have hc := fun e w => M.chk e k w
      simp [execOp, ho, hs.lit hm, hkv, Instr.lookup, run_underlying M.hm, MapKept.run_getObj_map hw', hc, hf, h5, Result.andThen]
    · rw [h1]
      exact h4
omit [DecidableEq κ] in
theorem aop_makeMapG (kv : κ → Value) {d : Nat} (ho : o.op = .makeMap mt none) (hd : o.dst = some d) (hN : Nat.blt d N = true) (hK : ∀ g, K ((d, .v (.map (some g))) :: s) (mapG kv g [] :: h)) : AOp P N o md s h K := fun B w S a hs Kr Qr hk => by
  have hrun : (execOp a.eval o).run P w = .ok (.value (.map (some w.heap.size))) (w.alloc (.map #[] 0)) := by
    simp [execOp, ho, Instr.makeMap]
  unfold wpX
  rw [hd] at hk
  rw [hrun, Oper.uponIn_value, hd]
  have hold := fun b hb => alloc_old w (.map #[] 0) b hb
  refine hk _ _ S _ _ (hK w.heap.size) ((hs.push (w' := w.alloc (.map #[] 0)) (grw_alloc _ _) (e := mapG kv w.heap.size []) ⟨#[], 0, by rw [heap_alloc_new], .nil⟩ (fun g hg => by have : g = w.heap.size := hg; omega)).put (.v _) (blt_lt hN)) (upd_push (by simp) hold)
theorem aop_mapUpdateG (M : MG P mt κ) {m kx x : Operand} {g : Nat} {k : κ} {kA : AV} {y : AV} {l l' : List (κ × AV)} {h' : List Ent} (ho : o.op = .mapUpdate mt m kx x) (hm : evA s m = some (.v (.map (some g)))) (hk : evA s kx = some kA) (hka : M.ka k = kA) (hx : evA s x = some y) (hd : o.dst = none)
    (hp : Repl h (mapG M.kv g l) (mapG M.kv g l') h') (hl : updG l k y = l') (hmd : md g) (hK : K s h') : AOp P N o md s h K := fun B w S a hs Kr Qr hk0 => by
  subst hl hka
  have hmem : mapG M.kv g l ∈ h := by obtain ⟨p, q, rfl, _⟩ := hp.split; simp
  obtain ⟨es, clock, hg, hr⟩ := hs.heap.ent _ hmem
  have hkv := M.inv _ _ _ _ (hs.slots.eval hk)
  have hf := fun w => M.find k _ _ w hr.keys
  have hxv := hs.slots.eval hx
  generalize hev : a.eval x = v at *
  have hlt : g < w.heap.size := (Array.getElem?_eq_some_iff.1 hg).1
  have hc := fun e w => M.chk e k w
  have hbk := M.bits k
  have fin : ∀ ob : Obj, (∃ es' c', ob = .map es' c' ∧ GRel w S M.kv (updG l k y) es'.toList) → Sim B N (w.putObj g ob) S s h' a ∧ Upd w S (w.putObj g ob) S md := by
    rintro ob ⟨es', c', rfl, hr'⟩
    have hoth : ∀ b, b ≠ g → (w.putObj g (.map es' c')).heap[b]? = w.heap[b]? := fun b hb => World.putObj_heap_other hb
    have hgrw : Grw w (w.putObj g (.map es' c')) (mapG M.kv g l).blk := ⟨rfl, rfl, rfl, by simp, fun b hb hn => hoth b (fun e => hn e)⟩
    exact ⟨hs.repl hp hgrw ⟨es', c', World.putObj_heap_same hlt, hr'.mono (fun _ h => h) (fun b hb => hoth b (fun e => hs.heap.off _ hmem g rfl (e ▸ hb)))⟩ (fun g' hg' => .inl hg'), ⟨by simp, fun b hb hn => hoth b (fun e => hn (e ▸ hmd)), fun _ h => h⟩⟩
  unfold wpX
  rw [hd] at hk0
  rcases findsG hr k 0 with ⟨h1, h2, h3⟩ | ⟨i, e, y1, h1, h2, h3, h4, h5, h6⟩
  · have hrun : (execOp a.eval o).run P w = .ok .skip (w.putObj g (.map (es.push { key := M.kv k, val := v, born := clock }) (clock + 1))) := by
      simp [execOp, ho, hs.slots.lit hm, hkv, hev, Instr.mapUpdate, run_underlying M.hm, MapKept.run_getObj_map hg, hc, hf, h3, MapKept.run_setObj_map _ hg, Result.andThen, World.putObj]
    rw [hrun, Oper.uponIn_skip, hd]
    obtain ⟨f1, f2⟩ := fin (.map (es.push { key := M.kv k, val := v, born := clock }) (clock + 1)) ⟨_, _, rfl, by rw [h2, Array.toList_push]; exact hr.push rfl hxv⟩
    exact hk0 _ _ S _ _ hK f1.putNone f2
  · have hi' : es[i]? = some e := by simpa using h2
    rw [Nat.zero_add] at h5
    have hrun : (execOp a.eval o).run P w = .ok .skip (w.putObj g (.map (es.modify i fun e => { e with key := M.kv k, val := v }) clock)) := by
      simp [execOp, ho, hs.slots.lit hm, hkv, hev, Instr.mapUpdate, run_underlying M.hm, MapKept.run_getObj_map hg, hc, hf, h5, hi', h3, Instr.keyThatStays, hbk, MapKept.run_setObj_map _ hg, Result.andThen, World.putObj]
    rw [hrun, Oper.uponIn_skip, hd]
    have hmod : (es.modify i fun e => { e with key := M.kv k, val := v }).toList = es.toList.set i { e with key := M.kv k, val := v } := by
      rw [Array.toList_modify]
      apply List.ext_getElem?
      intro j
      rw [List.getElem?_modify, List.getElem?_set]
      by_cases hj : i = j
      · subst hj
        have : i < es.toList.length := (List.getElem?_eq_some_iff.1 h2).1
        rw [h2]
        simp [show i < es.size by simpa using this]
      · simp [hj]
    obtain ⟨f1, f2⟩ := fin (.map (es.modify i fun e => { e with key := M.kv k, val := v }) clock) ⟨_, _, rfl, by rw [hmod]; exact h6 y v hxv _ rfl rfl⟩
    exact hk0 _ _ S _ _ hK f1.putNone f2
theorem lv_lookupO (M : MG P mt κ) {m x : Operand} {g : Nat} {k : κ} {kA : AV} {l : List (κ × AV)} {y : AV} {b : Bool} (ho : o.op = .lookup mt m x true) (hm : evA s m = some (.v (.map (some g)))) (hk : evA s x = some kA) (hka : M.ka k = kA) (hmem : Mem1 (mapG M.kv g l) h)
    (hy : (lookG l k).getD M.zA = y) (hb : (lookG l k).isSome = b) : LV P o s h (some (mapG M.kv g l)) (.tup [y, .v (.bool b)]) := fun w S a hs hh => by
  subst hy hka hb
  obtain ⟨es, clock, hg, hr⟩ := hh.ent _ hmem.mem
  have hkv := M.inv _ _ _ _ (hs.eval hk)
  have hf := fun w => M.find k _ _ w hr.keys
  have tup : ∀ (b : Bool) (x : AV) (v : Value), VRel w S x v → VRel w S (.tup [x, .v (.bool b)]) (.tuple #[v, .bool b]) := fun b x v hv => by
    have := VRels.cons hv (VRels.cons (VRel.v (w := w) (S := S) (.bool b)) VRels.nil)
    exact .tup (vs := [v, .bool b]) this.1 this.2
  rcases findsG hr k 0 with ⟨h1, _, h3⟩ | ⟨i, e, y1, h1, h2, h3, h4, h5, _⟩
  · refine ⟨.tuple #[M.z, .bool false], g, fun w' hw' => ?_, ?_, .inr ⟨_, rfl, hmem.mem, rfl⟩⟩
    · rw [hg] at hw'
      have hc := fun e w => M.chk e k w
      simp [execOp, ho, hs.lit hm, hkv, Instr.lookup, run_underlying M.hm, MapKept.run_getObj_map hw', hc, hf, h3, M.hz, Result.andThen]
    · rw [h1]
      exact tup _ _ _ (M.hzA w S)
  · refine ⟨.tuple #[e.val, .bool true], g, fun w' hw' => ?_, ?_, .inr ⟨_, rfl, hmem.mem, rfl⟩⟩
    · rw [hg] at hw'
      have hc := fun e w => M.chk e k w
      simp [execOp, ho, hs.lit hm, hkv, Instr.lookup, run_underlying M.hm, MapKept.run_getObj_map hw', hc, hf, h5, Result.andThen]
    · rw [h1]
      exact tup _ _ _ h4
theorem look_updG (y : AV) (k q : κ) : ∀ l : List (κ × AV), lookG (updG l k y) q = if q = k then some y else lookG l q
  | [] => by
    simp only [updG, lookG]
  | (k', y') :: r => by
    simp only [updG]
    by_cases h : k = k'
    · subst h
      rw [if_pos rfl]
      simp only [lookG]
      split <;> rfl
    · rw [if_neg h]
      simp only [lookG]
      have ih := look_updG y k q r
      by_cases h2 : q = k'
      · subst h2
        rw [if_pos rfl, if_pos rfl, if_neg (fun e => h e.symm)]
      · rw [if_neg h2, if_neg h2, ih]
end
end Go.Tl
namespace Go.Proofs.Ytallicfckbdeaaa
open Go Go.RowKit Go.Tl
set_option linter.unusedVariables false
set_option linter.unusedSimpArgs false
set_option maxRecDepth 100000
def spV (k : Int × Int) : Value := .agg #[.int .i64 k.1, .int .i64 k.2]
theorem spkey_ok (e : Bool) (a b : Int) (w : World) : (Instr.checkKey e 10000 139 (.agg #[.int .i64 a, .int .i64 b])).run Try.prog w = .ok () w := by kernel_rfl
theorem eq_spot (a c b d : Int) (w : World) : (Op.equal 139 (.agg #[.int .i64 a, .int .i64 b]) (.agg #[.int .i64 c, .int .i64 d])).run Try.prog w = .ok (a == c && b == d) w := by
  have h1 : Try.prog.stoodInHeld 139 = false := by kernel_rfl
  have h2 : Try.prog.underlying 139 = some (.struct (Try.prog.fieldsOf 139)) := by kernel_rfl
  have hfo : (Try.prog.fieldsOf 139).toList = (match Try.prog.underlying 139 with | some (.struct fs) => fs.toList | _ => []) := by kernel_rfl
  unfold Op.equal Op.maxDepth
  rw [run_equalIn_struct w 9999 139 _ _ h2 h1, hfo, Try.underlying139]
  have p1 : ∀ (x y : Value) (w : World), (part 3 #[x, y] 0).run Try.prog w = .ok x w := fun x y w => by kernel_rfl
  have p2 : ∀ (x y : Value) (w : World), (part 3 #[x, y] 1).run Try.prog w = .ok y w := fun x y w => by kernel_rfl
  have q : ∀ (a b : Int) (w : World), (Op.equalIn 9999 3 (.int .i64 a) (.int .i64 b)).run Try.prog w = .ok (a == b) w := fun a b w => run_equalIn_int w 9998 3 .i64 .i64 a b Try.underlying3
  cases h1 : (a == c) <;> cases h2 : (b == d) <;> simp [Op.eqFields, p1, p2, q, h1, h2]
theorem ask_s (k : Int × Int) : ∀ (ks : List (Int × Int)) (es : List MapEntry) (j : Nat) (w : World), KRel spV ks es → (Instr.findAsking 139 (spV k) es j).run Try.prog w = .ok (findG k ks es j) w
  | _, _, j, w, .nil => by simp [Instr.findAsking, findG]
  | k' :: ks, e :: es, j, w, .cons hk h => by
    have ih := ask_s k ks es (j + 1) w h
    have he : ∀ w, (Op.equal 139 (spV k) e.key).run Try.prog w = .ok (decide (k = k')) w := fun w => by
      rw [hk]
      have := eq_spot k.1 k'.1 k.2 k'.2 w
      show (Op.equal 139 (.agg #[.int .i64 k.1, .int .i64 k.2]) (.agg #[.int .i64 k'.1, .int .i64 k'.2])).run Try.prog w = _
      rw [this]
      obtain ⟨a, b⟩ := k
      obtain ⟨c, d⟩ := k'
      by_cases e1 : a = c
      · subst e1
        by_cases e2 : b = d
        · subst e2; simp
        · simp [e2]
      · have : ((a : Int) == (c : Int)) = false := beq_false_of_ne e1
        simp [this, e1]
    by_cases c : k = k'
    · subst c; simp [Instr.findAsking, he, findG]
    · simp [Instr.findAsking, he, findG, c, ih]
noncomputable def Msp : MG Try.prog 134 (Int × Int) where
  kt := 139
  vt := 3
  z := .int .i64 0
  zA := intA 0
  kv := spV
  ka := fun k => .ag [intA k.1, intA k.2]
  hm := by kernel_rfl
  inv := fun w S k v h => by
    obtain ⟨vs, rfl, hv⟩ := ag_inv h
    obtain ⟨v1, us, rfl, k1, hv⟩ := rels1 hv
    obtain ⟨v2, us, rfl, k2, hv⟩ := rels1 hv
    obtain rfl := rels0 hv
    rw [k1.lit_inv, k2.lit_inv]
    rfl
  hz := fun w => by kernel_rfl
  hzA := fun w S => .v _
  chk := fun e k w => spkey_ok e k.1 k.2 w
  bits := fun k => by
    obtain ⟨a, b⟩ := k
    simp [spV, Instr.sameBits]
  find := fun k ks es w h => by
    have h2 : Try.prog.underlying 139 = some (.struct (Try.prog.fieldsOf 139)) := by kernel_rfl
    cases h with
    | nil => simp [Instr.findKey, run_underlying h2, Instr.findNow, findG]
    | @cons k' e ks es hk h =>
      have hn : Instr.findNow (.struct (Try.prog.fieldsOf 139)) (spV k) (e :: es) 0 = none := by simp [Instr.findNow, Instr.sameNow]
      have := ask_s k _ _ 0 w (.cons hk h)
      simp [Instr.findKey, run_underlying h2, hn, this]
end Go.Proofs.Ytallicfckbdeaaa
