/- Joined texts: CMsp, CCb, CGLe, RBas, RObp, RFr. -/
import Derived.Test.YtlpknbneilgjkaaTL
import Derived.Test.YtlpknbneilgjkaaZnCCa
import Derived.Test.YtlpknbneilgjkaaZnGTs
import Derived.WalkKit
import Derived.WalkSpells
import Derived.Lib.Hide
import Derived.Deep.QuietTactic
import Derived.BigQuiet
import Derived.ChangeSame
import Derived.ChangeSlices
import Derived.ChangeShapes
import Derived.Test.YtlpknbneilgjkaaGTx
section
namespace Go.Tl
open Go Go.RowKit
set_option linter.unusedVariables false
set_option linter.unusedSimpArgs false
def findG {κ : Type} [DecidableEq κ] (k : κ) : List κ → List MapEntry → Nat → Option (Nat × Value)
  | k' :: ks, e :: es, i => if k = k' then some (i, e.val) else findG k ks es (i + 1)
  | _, _, _ => none
inductive KRel {κ : Type} (kv : κ → Value) : List κ → List MapEntry → Prop where
  | nil : KRel kv [] []
  | cons {k : κ} {e : MapEntry} {ks : List κ} {es : List MapEntry} (hk : e.key = kv k) (h : KRel kv ks es) : KRel kv (k :: ks) (e :: es)
structure MG (P : Program) (mt : TypeId) (κ : Type) [DecidableEq κ] where
  kt : TypeId
  vt : TypeId
  z : Value
  zA : AV
  kv : κ → Value
  ka : κ → AV
  hm : P.underlying mt = some (.map kt vt)
  inv : ∀ w S k v, VRel w S (ka k) v → v = kv k
  hz : ∀ w, (zeroValue vt).run P w = .ok z w
  hzA : ∀ w S, VRel w S zA z
  chk : ∀ e k w, (Instr.checkKey e 10000 kt (kv k)).run P w = .ok () w
  bits : ∀ k, Instr.sameBits 10000 (kv k) (kv k) = true
  find : ∀ k ks es w, KRel kv ks es → (Instr.findKey kt (kv k) es).run P w = .ok (findG k ks es 0) w
section
variable {κ : Type} [DecidableEq κ]
def lookG : List (κ × AV) → κ → Option AV
  | [], _ => none
  | (k, y) :: r, ks => if ks = k then some y else lookG r ks
def updG : List (κ × AV) → κ → AV → List (κ × AV)
  | [], ks, x => [(ks, x)]
  | (k, y) :: r, ks, x => if ks = k then (k, x) :: r else (k, y) :: updG r ks x
inductive GRel (w : World) (S : Nat → Prop) (kv : κ → Value) : List (κ × AV) → List MapEntry → Prop where
  | nil : GRel w S kv [] []
  | cons {k : κ} {y : AV} {e : MapEntry} {r : List (κ × AV)} {es : List MapEntry} (hk : e.key = kv k) (hv : VRel w S y e.val) (h : GRel w S kv r es) : GRel w S kv ((k, y) :: r) (e :: es)
omit [DecidableEq κ] in
theorem GRel.mono {w w' : World} {S S' : Nat → Prop} {kv : κ → Value} {l : List (κ × AV)} {es : List MapEntry} (h : GRel w S kv l es) (hS : ∀ b, S b → S' b) (hw : ∀ b, S b → w'.heap[b]? = w.heap[b]?) : GRel w' S' kv l es := by
  induction h with
  | nil => exact .nil
  | cons hk hv _ ih => exact .cons hk (hv.mono hS hw) ih
omit [DecidableEq κ] in
theorem GRel.keys {w : World} {S : Nat → Prop} {kv : κ → Value} {l : List (κ × AV)} {es : List MapEntry} (h : GRel w S kv l es) : KRel kv (l.map (·.1)) es := by
  induction h with
  | nil => exact .nil
  | cons hk _ _ ih => exact .cons hk ih
omit [DecidableEq κ] in
theorem GRel.push {w : World} {S : Nat → Prop} {kv : κ → Value} {l : List (κ × AV)} {es : List MapEntry} (h : GRel w S kv l es) {ks : κ} {y : AV} {e : MapEntry} (hk : e.key = kv ks) (hv : VRel w S y e.val) : GRel w S kv (l ++ [(ks, y)]) (es ++ [e]) := by
  induction h with
  | nil => exact .cons hk hv .nil
  | cons b c _ ih => exact .cons b c ih
def mapGO (kv : κ → Value) (g : Nat) (l : List (κ × AV)) : Ob where
  fp := fun b => b = g
  Φ := fun w S => ∃ es clock, w.heap[g]? = some (.map es clock) ∧ GRel w S kv l es.toList
  lt := fun ⟨es, c, h, _⟩ b hb => by rw [hb]; exact (Array.getElem?_eq_some_iff.1 h).1
  keep := fun ⟨es, c, h, hr⟩ _ _ _ _ hS hw hg => ⟨es, c, (hg g rfl).trans h, hr.mono hS hw⟩
abbrev mapG (kv : κ → Value) (g : Nat) (l : List (κ × AV)) : Ent := .ob (mapGO kv g l)
theorem findsG {w : World} {S : Nat → Prop} {kv : κ → Value} {l : List (κ × AV)} {es : List MapEntry} (h : GRel w S kv l es) (k : κ) : ∀ j,
    (lookG l k = none ∧ (∀ y, updG l k y = l ++ [(k, y)]) ∧ findG k (l.map (·.1)) es j = none) ∨
    (∃ i e y, lookG l k = some y ∧ es[i]? = some e ∧ e.key = kv k ∧ VRel w S y e.val ∧ findG k (l.map (·.1)) es j = some (j + i, e.val) ∧
      ∀ x v, VRel w S x v → ∀ e', e'.key = kv k → e'.val = v → GRel w S kv (updG l k x) (es.set i e')) := by
  induction h with
  | nil => exact fun j => .inl ⟨rfl, fun _ => rfl, rfl⟩
  | @cons k' y e r es hk hv hr ih =>
    intro j
    by_cases hh : k = k'
    · subst hh
      refine .inr ⟨0, e, y, by simp [lookG], rfl, hk, hv, by simp [findG], fun x v hx e' h1 h2 => ?_⟩
      simp only [updG, if_true, List.set_cons_zero]
      exact .cons h1 (h2 ▸ hx) hr
    · rcases ih (j + 1) with ⟨h1, h2, h3⟩ | ⟨i, e1, y1, h1, h2, h3, h4, h5, h6⟩
      · exact .inl ⟨by simp [lookG, hh, h1], fun x => by simp [updG, hh, h2], by simp [findG, hh, h3]⟩
      · refine .inr ⟨i + 1, e1, y1, by simp [lookG, hh, h1], by simpa using h2, h3, h4, ?_, fun x v hx e' h7 h8 => ?_⟩
        · have e4 : j + (i + 1) = j + 1 + i := by omega
          rw [e4]
          simp [findG, hh, h5]
        · simp only [updG, hh, if_false, List.set_cons_succ]
          exact .cons hk hv (h6 x v hx e' h7 h8)
variable {P : Program} {mt : TypeId} {N : Nat} {o : Oper} {md : Nat → Prop} {s : Slots} {h : List Ent} {K : Slots → List Ent → Prop}
omit [DecidableEq κ] in
theorem aop_makeMapG (kv : κ → Value) {d : Nat} (ho : o.op = .makeMap mt none) (hd : o.dst = some d) (hN : Nat.blt d N = true) (hK : ∀ g, K ((d, .v (.map (some g))) :: s) (mapG kv g [] :: h)) : AOp P N o md s h K := fun B w S a hs Kr Qr hk => by
  have hrun : (execOp a.eval o).run P w = .ok (.value (.map (some w.heap.size))) (w.alloc (.map #[] 0)) := by
    simp [execOp, ho, Instr.makeMap]
  unfold wpX
  rw [hd] at hk
  rw [hrun, Oper.uponIn_value, hd]
  have hold := fun b hb => alloc_old w (.map #[] 0) b hb
  refine hk _ _ S _ _ (hK w.heap.size) ((hs.push (w' := w.alloc (.map #[] 0)) (grw_alloc _ _) (e := mapG kv w.heap.size []) ⟨#[], 0, by rw [heap_alloc_new], .nil⟩ (fun g hg => by have : g = w.heap.size := hg; omega)).put (.v _) (blt_lt hN)) (upd_push (by simp) hold)
end
end Go.Tl
namespace Go.Proofs.Ytlpknbneilgjkaa.C
open Go Go.RowKit Go.Tl
set_option linter.unusedVariables false
set_option linter.unusedSimpArgs false
set_option maxRecDepth 100000
def spV (k : Int × Int) : Value := .agg #[.int .i64 k.1, .int .i64 k.2]
theorem spkey_ok (e : Bool) (a b : Int) (w : World) : (Instr.checkKey e 10000 318 (.agg #[.int .i64 a, .int .i64 b])).run Try.prog w = .ok () w := by kernel_rfl
theorem eq_spot (a c b d : Int) (w : World) : (Op.equal 318 (.agg #[.int .i64 a, .int .i64 b]) (.agg #[.int .i64 c, .int .i64 d])).run Try.prog w = .ok (a == c && b == d) w := by
  have h1 : Try.prog.stoodInHeld 318 = false := by kernel_rfl
  have h2 : Try.prog.underlying 318 = some (.struct (Try.prog.fieldsOf 318)) := by kernel_rfl
  have hfo : (Try.prog.fieldsOf 318).toList = (match Try.prog.underlying 318 with | some (.struct fs) => fs.toList | _ => []) := by kernel_rfl
  unfold Op.equal Op.maxDepth
  rw [run_equalIn_struct w 9999 318 _ _ h2 h1, hfo, Try.underlying318]
  have p1 : ∀ (x y : Value) (w : World), (part 3 #[x, y] 0).run Try.prog w = .ok x w := fun x y w => by kernel_rfl
  have p2 : ∀ (x y : Value) (w : World), (part 3 #[x, y] 1).run Try.prog w = .ok y w := fun x y w => by kernel_rfl
  have q : ∀ (a b : Int) (w : World), (Op.equalIn 9999 3 (.int .i64 a) (.int .i64 b)).run Try.prog w = .ok (a == b) w := fun a b w => run_equalIn_int w 9998 3 .i64 .i64 a b Try.underlying3
  cases h1 : (a == c) <;> cases h2 : (b == d) <;> simp [Op.eqFields, p1, p2, q, h1, h2]
theorem ask_s (k : Int × Int) : ∀ (ks : List (Int × Int)) (es : List MapEntry) (j : Nat) (w : World), KRel spV ks es → (Instr.findAsking 318 (spV k) es j).run Try.prog w = .ok (findG k ks es j) w
  | _, _, j, w, .nil => by simp [Instr.findAsking, findG]
  | k' :: ks, e :: es, j, w, .cons hk h => by
    have ih := ask_s k ks es (j + 1) w h
    have he : ∀ w, (Op.equal 318 (spV k) e.key).run Try.prog w = .ok (decide (k = k')) w := fun w => by
      rw [hk]
      have := eq_spot k.1 k'.1 k.2 k'.2 w
      show (Op.equal 318 (.agg #[.int .i64 k.1, .int .i64 k.2]) (.agg #[.int .i64 k'.1, .int .i64 k'.2])).run Try.prog w = _
      rw [this]
      obtain ⟨a, b⟩ := k
      obtain ⟨c, d⟩ := k'
      by_cases e1 : a = c
      · subst e1
        by_cases e2 : b = d
        · subst e2; simp
        · simp [e2]
      · have : ((a : Int) == (c : Int)) = false := beq_false_of_ne e1
        simp [this, e1]
    by_cases c : k = k'
    · subst c; simp [Instr.findAsking, he, findG]
    · simp [Instr.findAsking, he, findG, c, ih]
noncomputable def Msp : MG Try.prog 326 (Int × Int) where
  kt := 318
  vt := 3
  z := .int .i64 0
  zA := intA 0
  kv := spV
  ka := fun k => .ag [intA k.1, intA k.2]
  hm := by kernel_rfl
  inv := fun w S k v h => by
    obtain ⟨vs, rfl, hv⟩ := ag_inv h
    obtain ⟨v1, us, rfl, k1, hv⟩ := rels1 hv
    obtain ⟨v2, us, rfl, k2, hv⟩ := rels1 hv
    obtain rfl := rels0 hv
    rw [k1.lit_inv, k2.lit_inv]
    rfl
  hz := fun w => by kernel_rfl
  hzA := fun w S => .v _
  chk := fun e k w => spkey_ok e k.1 k.2 w
  bits := fun k => by
    obtain ⟨a, b⟩ := k
    simp [spV, Instr.sameBits]
  find := fun k ks es w h => by
    have h2 : Try.prog.underlying 318 = some (.struct (Try.prog.fieldsOf 318)) := by kernel_rfl
    cases h with
    | nil => simp [Instr.findKey, run_underlying h2, Instr.findNow, findG]
    | @cons k' e ks es hk h =>
      have hn : Instr.findNow (.struct (Try.prog.fieldsOf 318)) (spV k) (e :: es) 0 = none := by simp [Instr.findNow, Instr.sameNow]
      have := ask_s k _ _ 0 w (.cons hk h)
      simp [Instr.findKey, run_underlying h2, hn, this]
end Go.Proofs.Ytlpknbneilgjkaa.C
end
section
namespace Go.Proofs.Ytlpknbneilgjkaa.C
open Go Go.RowKit Go.Tl
set_option linter.unusedVariables false
set_option linter.unusedSimpArgs false
set_option maxRecDepth 100000
set_option maxHeartbeats 4000000
structure VMkt (m : MktD) : Prop where
  pos : 1 ≤ m.hou.length
  len : m.hou.length ≤ 6
  clen : m.con.length ≤ 8
  ex : 1 ≤ m.ex ∧ m.ex ≤ 200
  held : ∀ i, i < m.hou.length → 0 ≤ (m.hou.getD i default).lo ∧ (m.hou.getD i default).lo ≤ (m.hou.getD i default).hi ∧ (m.hou.getD i default).hi ≤ 200
  ask : ∀ i, i < m.hou.length → 0 ≤ (m.hou.getD i default).ask ∧ (m.hou.getD i default).ask ≤ 1000
  con : ∀ k, k < m.con.length → (0 ≤ (m.con.getD k default).sh ∧ (m.con.getD k default).sh < m.hou.length) ∧ (0 ≤ (m.con.getD k default).lg ∧ (m.con.getD k default).lg < m.hou.length) ∧ (m.con.getD k default).sh ≠ (m.con.getD k default).lg ∧ 1 ≤ (m.con.getD k default).n ∧ (m.con.getD k default).n ≤ 200
def owN (cs : List ConD) : Nat → Nat → Int
  | 0, _ => 0
  | k + 1, i => owN cs k i - (if (cs.getD k default).sh = (i : Int) then (cs.getD k default).n else 0) + (if (cs.getD k default).lg = (i : Int) then (cs.getD k default).n else 0)
abbrev owedN (m : MktD) (i : Nat) : Int := owN m.con m.con.length i
theorem ow_bd {cs : List ConD} (h : ∀ k, k < cs.length → 1 ≤ (cs.getD k default).n ∧ (cs.getD k default).n ≤ 200) (i : Nat) : ∀ k : Nat, k ≤ cs.length → -200 * (k : Int) ≤ owN cs k i ∧ owN cs k i ≤ 200 * (k : Int)
  | 0, _ => by simp [owN]
  | k + 1, hk => by
    have ih := ow_bd h i k (by omega)
    have hn := h k (by omega)
    simp only [owN]
    split <;> split <;> omega
theorem arrI_zero : ([intA 0, intA 0, intA 0, intA 0, intA 0, intA 0] : List AV) = arrI (fun _ => 0) 6 := rfl
attribute [local irreducible] AWP AWL AOp PV LV AWT AWE
section
variable {g1 g2 g4 : Nat} {js jl k : Nat} {nn : Int} {d d' : Nat → Int} {T : AV} {n : Int}
theorem cb_4 (hj : js < 6) (hb : -2000 ≤ d js ∧ d js ≤ 2000) (hn : 0 ≤ nn ∧ nn ≤ 2000) (hd : ∀ q, q < 6 → d' q = if q = js then d js - nn else d q) {ops : Array Oper} (h : regF Try.f216 4 = some ops) :
    AWP Try.prog Try.f216.ntmps none (.region 4 ops true) (cutQ (fun s h => s = [(1, .v (ptrV g1)), (2, .v (ptrV g2)), (4, .v (ptrV g4)), (6, T), (7, intA n), (8, intA k)] ∧ h = [.cl g4 188 [intA js, intA jl, intA nn], .cl g2 324 (arrI d' 6)]))
      [(1, .v (ptrV g1)), (2, .v (ptrV g2)), (4, .v (ptrV g4)), (6, T), (7, intA n), (8, intA k)] [.cl g4 188 [intA js, intA jl, intA nn], .cl g2 324 (arrI d 6)] := by
  cases h
  have r1 : (arrI d 6)[js]? = some (intA (d js)) := arrI_at hj
  refine awp_tree T0 [(0, 0), (1, 1), (2, 0), (4, 0), (5, 1), (3, 2), (6, 0), (7, 0), (8, 3)] (.op 0 0 (.op 1 1 (.op 2 0 (.op 4 0 (.op 5 1 (.op 3 2 (.op 6 0 (.op 7 0 (.op 8 3 .stop))))))))) [.cl g4 _ _] rfl (by kernel_rfl) rcA ?_
  refine awt_po rfl (wt_none rfl) (pv_fa T0 rfl rfl rfl (by simp; rfl)) rfl rfl ?_
  refine awt_lo rfl (wt_none rfl) (lv_cl1 T0 rfl rfl rfl rcA raA) rfl rfl rfl ?_
  refine awt_po rfl (wt_none rfl) (pv_ix_arr T0 rfl rfl rfl rfl (by omega) (by simp; rfl)) rfl rfl ?_
  refine awt_po rfl (wt_none rfl) (pv_fa T0 rfl rfl rfl (by simp; rfl)) rfl rfl ?_
  refine awt_lo rfl (wt_none rfl) (lv_cl1 T0 rfl rfl rfl rcA raA) rfl rfl rfl ?_
  refine awt_h (hm := []) rfl (wt_none rfl) rcA rfl (aop_lv (lv_cl1 T0 rfl rfl rfl rcA r1) rfl (blt_lt rfl) ?_)
  refine awt_n1 rfl (wt_none rfl) (pv_sub rfl rfl rfl (by first | assumption | exact wr64 (by omega))) rfl rfl rfl ?_
  refine awt_po rfl (wt_none rfl) (pv_ix_arr T0 rfl rfl rfl rfl (by omega) (by simp; rfl)) rfl rfl ?_
  refine awt_s (md := fun _ => True) rfl (wt_none rfl) (st_arrI T0 rfl rfl rfl rfl rfl rcA hj hd trivial ?_)
  refine awe_end ?_
  exact cut_n ⟨rfl, rfl⟩ ssA rcA
theorem cb_5 (hj : jl < 6) (hb : -2000 ≤ d jl ∧ d jl ≤ 2000) (hn : 0 ≤ nn ∧ nn ≤ 2000) (hd : ∀ q, q < 6 → d' q = if q = jl then d jl + nn else d q) {ops : Array Oper} (h : regF Try.f216 5 = some ops) :
    AWP Try.prog Try.f216.ntmps none (.region 5 ops true) (cutQ (fun s h => s = [(1, .v (ptrV g1)), (2, .v (ptrV g2)), (6, T), (7, intA n), (8, intA k)] ∧ h = [.cl g2 324 (arrI d' 6)]))
      [(1, .v (ptrV g1)), (2, .v (ptrV g2)), (4, .v (ptrV g4)), (6, T), (7, intA n), (8, intA k)] [.cl g4 188 [intA js, intA jl, intA nn], .cl g2 324 (arrI d 6)] := by
  cases h
  have r1 : (arrI d 6)[jl]? = some (intA (d jl)) := arrI_at hj
  refine awp_tree T0 [(0, 0), (1, 1), (2, 0), (4, 0), (5, 1), (3, 2), (6, 0), (7, 0), (8, 3)] (.op 0 0 (.op 1 1 (.op 2 0 (.op 4 0 (.op 5 1 (.op 3 2 (.op 6 0 (.op 7 0 (.op 8 3 .stop))))))))) [.cl g4 _ _] rfl (by kernel_rfl) rcA ?_
  refine awt_po rfl (wt_none rfl) (pv_fa T0 rfl rfl rfl (by simp; rfl)) rfl rfl ?_
  refine awt_lo rfl (wt_none rfl) (lv_cl1 T0 rfl rfl rfl rcA raA) rfl rfl rfl ?_
  refine awt_po rfl (wt_none rfl) (pv_ix_arr T0 rfl rfl rfl rfl (by omega) (by simp; rfl)) rfl rfl ?_
  refine awt_po rfl (wt_none rfl) (pv_fa T0 rfl rfl rfl (by simp; rfl)) rfl rfl ?_
  refine awt_lo rfl (wt_none rfl) (lv_cl1 T0 rfl rfl rfl rcA raA) rfl rfl rfl ?_
  refine awt_h (hm := []) rfl (wt_none rfl) rcA rfl (aop_lv (lv_cl1 T0 rfl rfl rfl rcA r1) rfl (blt_lt rfl) ?_)
  refine awt_n1 rfl (wt_none rfl) (pv_add rfl rfl rfl (by first | assumption | exact wr64 (by omega))) rfl rfl rfl ?_
  refine awt_po rfl (wt_none rfl) (pv_ix_arr T0 rfl rfl rfl rfl (by omega) (by simp; rfl)) rfl rfl ?_
  refine awt_s (md := fun _ => True) rfl (wt_none rfl) (st_arrI T0 rfl rfl rfl rfl rfl rcA hj hd trivial ?_)
  refine awe_end ?_
  exact cut_n ⟨rfl, rfl⟩ ssA rcA
end
theorem owed_p (cp cc : Bool) (m : MktD) (hv : VMkt m) : PCall Try.prog 216 [mktA cp cc m] (fun r => r = .ag (arrI (owedN m) 6)) := by
  have hlen := hv.len
  have hcl := hv.clen
  refine acall_of_awp T0 Try.func216 rfl rfl rfl ?_
  repeat (first | refine awp_seq ?_ | refine awp_region_lit rfl ?_)
  refine awl_hw (wt_none rfl) (st_box rfl rfl raA (by first | assumption | (simp only [cellsA]; rfl)) rfl rfl ?_)
  intro g1
  skip
  refine awl_hw (wt_none rfl) (st_alloc T0 rfl rfl rfl rfl scA ?_)
  intro g2
  repeat (first | refine awp_seq ?_ | refine awp_block ?_ | refine awp_region_lit rfl ?_ | (show AWL _ _ _ (⟨_, .move _, _, _, _, _⟩ :: _) _ _ _; refine awl_pw (wt_none rfl) (pv_move rfl rfl) rfl rfl ?_) | (show AWL _ _ _ (⟨_, .load _ _, _, _, _, _⟩ :: _) _ _ _; refine awl_lw (wt_none rfl) (lv_cl1 T0 rfl rfl rfl rcA raA) rfl rfl rfl ?_) | (show AWL _ _ _ (⟨_, .fieldAddr _ _ _, _, _, _, _⟩ :: _) _ _ _; refine awl_pw (wt_none rfl) (pv_fa T0 rfl rfl rfl (by simp; rfl)) rfl rfl ?_) | (show AWL _ _ _ (⟨_, .call ⟨.builtin .len, _, _⟩, _, _, _, _⟩ :: _) _ _ _; refine awl_pw (wt_none rfl) (pv_len_t T0 rfl rfl rfl) rfl rfl ?_) | refine awl_nil ?_)
  rw [arrI_zero]
  refine awp_loop (fun q s h => ∃ (k : Nat), k ≤ m.con.length ∧ q = m.con.length - k ∧ s = [(1, .v (ptrV g1)), (2, .v (ptrV g2)), (6, .t (consT cc m.con)), (7, intA m.con.length), (8, intA k)] ∧ h = [.cl g2 324 (arrI (owN m.con k) 6)]) ?_ ⟨0, Nat.zero_le _, rfl, rfl, rfl⟩ ssA rcA
  rintro q s h ⟨k, hk, rfl, rfl, rfl⟩
  by_cases hkt : k < m.con.length
  case neg =>
    obtain rfl : k = m.con.length := by omega
    repeat (first | refine awp_seq ?_ | refine awp_region_lit rfl ?_ | refine awp_exit ?_ | refine awp_ret ?_ | refine awp_cond_f rfl (by first | rfl | assumption | exact dF (by omega)) ?_ | (show AWL _ _ _ (⟨_, .load _ _, _, _, _, _⟩ :: _) _ _ _; refine awl_lw (wt_none rfl) (lv_cla T0 rfl rfl rfl rcA rfl) rfl rfl rfl ?_) | (show AWL _ _ _ (⟨_, .binOp .lss _ _ _ _, _, _, _, _⟩ :: _) _ _ _; refine awl_pw (wt_none rfl) (pv_lss rfl rfl rfl) rfl rfl ?_) | (show AWL _ _ _ (⟨_, .store _ _ _, _, _, _, _⟩ :: _) _ _ _; refine awl_hw (wt_none rfl) (st_store T0 rfl rfl rfl rfl rfl (by first | assumption | (simp only [cellsA]; rfl)) rfl rfl rfl rcA rcA trivial ?_)) | refine awl_nil ?_)
    refine body_p (res_cell rfl rfl rcA rfl rfl rfl .nil) ?_
    rfl
  obtain ⟨hs, hl, hne, hn⟩ := hv.con k hkt
  have hb := fun i => ow_bd (cs := m.con) (fun k hk => (hv.con k hk).2.2.2) i k (by omega)
  obtain ⟨js, hjs⟩ : ∃ j : Nat, (m.con.getD k default).sh = j := ⟨(m.con.getD k default).sh.toNat, by omega⟩
  obtain ⟨jl, hjl⟩ : ∃ j : Nat, (m.con.getD k default).lg = j := ⟨(m.con.getD k default).lg.toNat, by omega⟩
  have hjs' : (m.con.getD k default).sh = (js : Int) := hjs
  have hjl' : (m.con.getD k default).lg = (jl : Int) := hjl
  have hst : ∀ i, owN m.con (k + 1) i = owN m.con k i - (if (js : Int) = (i : Int) then (m.con.getD k default).n else 0) + (if (jl : Int) = (i : Int) then (m.con.getD k default).n else 0) := fun i => by rw [← hjs', ← hjl']; rfl
  have hn' : 1 ≤ (m.con.getD k default).n ∧ (m.con.getD k default).n ≤ 200 := hn
  have hb1 := hb js
  have hb2 := hb jl
  have r1 : (arrI (owN m.con k) 6)[js]? = some (intA (owN m.con k js)) := arrI_at (by omega)
  obtain ⟨D, hD⟩ : ∃ D : Nat → Int, ∀ q, D q = if q = js then owN m.con k js - (m.con.getD k default).n else owN m.con k q := ⟨fun q => if q = js then owN m.con k js - (m.con.getD k default).n else owN m.con k q, fun _ => rfl⟩
  have hDl : D jl = owN m.con k jl := by rw [hD, if_neg (by omega)]
  have r2 : (arrI D 6)[jl]? = some (intA (owN m.con k jl)) := by rw [arrI_at (by omega), hDl]
  have hsd : ∀ q, q < 6 → owN m.con (k + 1) q = if q = jl then owN m.con k jl + (m.con.getD k default).n else D q := by
    intro q hq
    rw [hst, hD]
    by_cases e1 : q = js
    · subst e1; (repeat' split) <;> omega
    · by_cases e2 : q = jl
      · subst e2; (repeat' split) <;> omega
      · (repeat' split) <;> omega
  have hj6 : js < 6 := by omega
  have hl6 : jl < 6 := by omega
  repeat (first | refine awp_seq ?_ | refine awp_block ?_ | refine awp_region_lit rfl ?_ | refine awp_skip ?_ | refine awp_cond_t rfl (by first | rfl | assumption | exact dT (by omega)) ?_ | (show AWL _ _ _ (⟨_, .load _ _, _, _, _, _⟩ :: _) _ _ _; refine awl_lw (wt_none rfl) (lv_elt_ag T0 rfl rfl rfl rfl rcA) rfl rfl rfl ?_) | (show AWL _ _ _ (⟨_, .indexAddr _ _ _, _, _, _, _⟩ :: _) _ _ _; refine awl_pw (wt_none rfl) (pv_ix_t T0 rfl rfl rfl rfl (by omega) ixA) rfl rfl ?_) | (show AWL _ _ _ (⟨_, .binOp .lss _ _ _ _, _, _, _, _⟩ :: _) _ _ _; refine awl_pw (wt_none rfl) (pv_lss rfl rfl rfl) rfl rfl ?_) | refine awl_nil ?_)
  refine awl_hw (wt_none rfl) (st_alloc T0 rfl rfl rfl rfl scA ?_)
  intro g4
  repeat (first | refine awp_seq ?_ | (show AWL _ _ _ (⟨_, .store _ _ _, _, _, _, _⟩ :: _) _ _ _; refine awl_hw (wt_none rfl) (st_store T0 rfl rfl rfl rfl rfl (by first | assumption | (simp only [cellsA]; rfl)) rfl rfl rfl rcA rcA trivial ?_)) | refine awl_nil ?_)
  rw [hjs', hjl']
  generalize (m.con.getD k default).n = nn at *
  have hDb : -2000 ≤ D jl ∧ D jl ≤ 2000 := by rw [hDl]; omega
  refine awp_cut _ (awp_weak ssA rcA (cb_4 (d := owN m.con k) (d' := D) (g1 := g1) (g4 := g4) (T := .t (consT cc m.con)) (n := m.con.length) (k := k) (jl := jl) hj6 (by omega) (by omega) (fun q _ => hD q) rfl)) ?_
  rintro s h ⟨rfl, rfl⟩
  refine awp_cutB _ (awp_weak ssA rcA (cb_5 (d := D) (d' := owN m.con (k + 1)) (g1 := g1) (T := .t (consT cc m.con)) (n := m.con.length) (k := k) hl6 hDb (by omega) (fun q hq => by rw [hDl]; exact hsd q hq) rfl)) ?_
  rintro s h ⟨rfl, rfl⟩
  repeat (first | refine awp_region_lit rfl ?_ | (show AWL _ _ _ (⟨_, .move _, _, _, _, _⟩ :: _) _ _ _; refine awl_pw (wt_none rfl) (pv_move rfl rfl) rfl rfl ?_) | (show AWL _ _ _ (⟨_, .binOp .add _ _ _ _, _, _, _, _⟩ :: _) _ _ _; refine awl_pw (wt_none rfl) (pv_add rfl rfl rfl (by first | assumption | exact wr64 (by omega))) rfl rfl ?_) | refine awl_nil ?_)
  refine rnd_n _ _ _ ?_ ⟨k + 1, by omega, rfl, rfl, rfl⟩ ssA rcA
  omega
end Go.Proofs.Ytlpknbneilgjkaa.C
end
section
section
namespace Go.Tl
open Go Go.RowKit
set_option linter.unusedSimpArgs false
set_option linter.unusedVariables false
theorem acall_ownG {P : Program} {g : Nat} {v : Value} {E sz n : Nat} {rows : List (List AV)} {f : Nat → List Tr} {args : List AV} {hc : List Ent} {Q : AV → List Ent → Prop} (C : ACall P g (.t (.sl true sz n f) :: args) hc Q) (hn : rows.length = n) (hf : ∀ k, k < n → rows.getD k [] = (f k).map AV.ofTr) :
    ACall P g (.v v :: args) (.rw v E sz rows :: hc) Q := fun w S vs h1 h2 h3 => by
  have he := h2.ent _ List.mem_cons_self
  have ht := row_tree he hn hf
  have hlt' : ∀ b, (S b ∨ v.ownBlock = some b) → b < w.heap.size := fun b hb => by
    rcases hb with hb | hb
    · exact h1 b hb
    · obtain ⟨xs, ho, _⟩ := he
      exact (ho.lt b hb).2
  obtain ⟨u, us, rfl, hu, h4⟩ := Go.Proofs.Ytlpknbneilgjkaa.rels1 h3
  have eu := hu.lit_inv
  subst eu
  have h2' := h2.freeze (Pick.here (l := hc))
  refine (C w _ (u :: us) hlt' h2' (.cons (.t ht) (h4.mono (fun _ h => .inl h) (fun _ _ => rfl)))).mono fun e w' ⟨v', S'', r, h', e1, hq, hvr, E', hlt, hr, hl⟩ => ⟨v', S'', r, h', e1, hq, hvr, ⟨E'.os, E'.tape, E'.output, E'.size, fun b hb hno => E'.keep b hb (fun ⟨e, he, hg⟩ => hno ⟨e, List.mem_cons_of_mem _ he, hg⟩), fun b hb => E'.stab b (.inl hb), fun b hb => ?_⟩, hlt, hr, fun e he g hg => ?_⟩
  · rcases E'.new b hb with (h | h) | h | ⟨e, he, hg⟩
    · exact .inl h
    · exact .inr (.inr ⟨_, List.mem_cons_self, h⟩)
    · exact .inr (.inl h)
    · exact .inr (.inr ⟨e, List.mem_cons_of_mem _ he, hg⟩)
  · rcases hl e he g hg with ⟨e2, he2, hg2⟩ | h
    · exact .inl ⟨e2, List.mem_cons_of_mem _ he2, hg2⟩
    · exact .inr h
theorem acall_nilG {P : Program} {g : Nat} {cp : Bool} {f : Nat → List Tr} {args : List AV} {hc : List Ent} {Q : AV → List Ent → Prop} (C : ACall P g (.t (.sl cp 1 0 f) :: args) hc Q) : ACall P g (.v (.slice none 0 0) :: args) hc Q := fun w S vs h1 h2 h3 => by
  obtain ⟨u, us, rfl, hu, h4⟩ := Go.Proofs.Ytlpknbneilgjkaa.rels1 h3
  have eu := hu.lit_inv
  subst eu
  exact C w S _ h1 h2 (.cons (.t (.sl (fun _ _ => .int .i64 0) (fun _ => Nat.le_refl _) (fun k hk => absurd hk (Nat.not_lt_zero _)) (fun k hk => absurd hk (Nat.not_lt_zero _)) (fun k j x hk => absurd hk (Nat.not_lt_zero _)))) h4)
end Go.Tl
namespace Go.Proofs.Ytlpknbneilgjkaa.C
open Go Go.RowKit Go.Tl
set_option linter.unusedVariables false
set_option linter.unusedSimpArgs false
set_option maxRecDepth 100000
set_option maxHeartbeats 4000000
theorem conOne (cs : List HouD) : ∀ k, k < cs.length → ∀ u ∈ houL (cs.getD k default), oneA (AV.ofTr u) = true := fun k hk u hu => by
  simp only [houL, List.mem_cons, List.not_mem_nil, or_false] at hu
  rcases hu with rfl | rfl | rfl | rfl <;> rfl
def mnL (xs : List Int) : Nat → Int
  | 0 => xs.getD 0 0
  | k + 1 => min (mnL xs k) (xs.getD (k + 1) 0)
attribute [local irreducible] AWP AWL AOp PV LV AWT AWE
theorem iclone_o (cp : Bool) (l : List Int) (hl : l.length ≤ 1000) : ACall Try.prog 66 [.t (intsT cp l)] [] (fun r h' => ∃ (a : Option Addr) (c : Nat), r = .v (.slice a l.length c) ∧ h' = [.rw (.slice a l.length c) 3 1 (l.map intRow)]) := by
  refine acall_of_awp T0 Try.func66 rfl rfl rfl ?_
  repeat (first | refine awp_seq ?_ | refine awp_region_lit rfl ?_ | (show AWL _ _ _ (⟨_, .move _, _, _, _, _⟩ :: _) _ _ _; refine awl_pw (wt_none rfl) (pv_move rfl rfl) rfl rfl ?_) | (show AWL _ _ _ (⟨_, .assign _, _, _, _, _⟩ :: _) _ _ _; refine awl_pw (wt_none rfl) (pv_assign rfl rfl) rfl rfl ?_) | refine awl_nil ?_)
  refine awl_hw (wt_none rfl) (aop_isnil T0 rfl rfl rfl rfl rfl ?_)
  intro bb hb
  cases bb
  · repeat (first | refine awp_seq ?_ | refine awp_region_lit rfl ?_ | refine awp_skip ?_ | with_reducible refine then_n ?_ | refine awp_cond_f rfl (by first | rfl | assumption | exact dF (by omega)) ?_ | refine awl_nil ?_)
    refine awl_hw (wt_none rfl) (st_bsl T0 rfl rfl rfl rfl rfl rcA rfl rfl rfl rfl (by simp only [List.map_cons, List.map_nil, cellsA]; rfl) ?_)
    intro g
    repeat (first | (show AWL _ _ _ (⟨_, .move _, _, _, _, _⟩ :: _) _ _ _; refine awl_pw (wt_none rfl) (pv_move rfl rfl) rfl rfl ?_))
    refine awl_hw (wt_none rfl) (st_appt T0 rfl rfl rfl rfl rfl rfl rfl rfl rfl rcA (by first | exact conOne _ | (intro k hk u hu; simp at hu; subst hu; rfl)) (rfl : ([] : List (List AV)).length = 0) (by first | omega | (simp; omega)) (fun _ _ => trivial) rfl ?_)
    intro a c p
    repeat (first | refine awp_ret ?_ | (show AWL _ _ _ (⟨_, .assign _, _, _, _, _⟩ :: _) _ _ _; refine awl_pw (wt_none rfl) (pv_assign rfl rfl) rfl rfl ?_) | refine awl_nil ?_)
    simp only [List.nil_append, List.length_nil, Nat.zero_add]
    have hrows : ((List.range l.length).map fun k => List.map AV.ofTr [Tr.sc (.int .i64 (l.getD k 0))]) = l.map intRow := by
      refine List.ext_getElem (by simp) fun k h1 h2 => ?_
      simp at h1 h2
      simp [List.getD_eq_getElem?_getD, h1, AV.ofTr, intRow]
    rw [hrows]
    exact body_r (h' := [.rw (.slice a l.length c) 3 1 (l.map intRow)]) (.cons rfl .nil) rcA ⟨a, c, rfl, rfl⟩
  · have hl0 : l = [] := by
      refine List.length_eq_zero_iff.1 ?_
      rcases Nat.eq_zero_or_pos l.length with e | e
      · exact e
      · have := hb e; cases this
    subst hl0
    repeat (first | refine awp_seq ?_ | refine awp_region_lit rfl ?_ | refine awp_ret ?_ | with_reducible refine then_n ?_ | with_reducible refine then_r ?_ | refine awp_cond_t rfl (by first | rfl | assumption | exact dT (by omega)) ?_ | (show AWL _ _ _ (⟨_, .assign _, _, _, _, _⟩ :: _) _ _ _; refine awl_pw (wt_none rfl) (pv_assign rfl rfl) rfl rfl ?_) | refine awl_nil ?_)
    refine bodyQ_ghost (ghost_nilrow 3 1) ?_
    exact body_r (h' := [.rw (.slice none 0 0) 3 1 []]) (.cons rfl .nil) rcA ⟨none, 0, rfl, rfl⟩
theorem smin_p (cp : Bool) (xs : List Int) (hl : xs.length ≤ 1000) (h0 : 0 < xs.length) : PCall Try.prog 168 [.t (intsT cp xs)] (fun r => r = intA (mnL xs (xs.length - 1))) := by
  refine acall_of_awp T0 Try.func168 rfl rfl rfl ?_
  repeat (first | refine awp_seq ?_ | refine awp_block ?_ | refine awp_region_lit rfl ?_ | refine awp_skip ?_ | with_reducible refine then_n ?_ | refine awp_cond_f rfl (by first | rfl | assumption | exact dF (by omega)) ?_ | (show AWL _ _ _ (⟨_, .move _, _, _, _, _⟩ :: _) _ _ _; refine awl_pw (wt_none rfl) (pv_move rfl rfl) rfl rfl ?_) | (show AWL _ _ _ (⟨_, .assign _, _, _, _, _⟩ :: _) _ _ _; refine awl_pw (wt_none rfl) (pv_assign rfl rfl) rfl rfl ?_) | (show AWL _ _ _ (⟨_, .load _ _, _, _, _, _⟩ :: _) _ _ _; refine awl_lw (wt_none rfl) (lv_elt_sc T0 rfl rfl rfl rfl) rfl rfl rfl ?_) | (show AWL _ _ _ (⟨_, .indexAddr _ _ _, _, _, _, _⟩ :: _) _ _ _; refine awl_pw (wt_none rfl) (pv_ix_t T0 rfl rfl rfl rfl (by omega) ixA) rfl rfl ?_) | (show AWL _ _ _ (⟨_, .binOp .lss _ _ _ _, _, _, _, _⟩ :: _) _ _ _; refine awl_pw (wt_none rfl) (pv_lss rfl rfl rfl) rfl rfl ?_) | (show AWL _ _ _ (⟨_, .call ⟨.builtin .len, _, _⟩, _, _, _, _⟩ :: _) _ _ _; refine awl_pw (wt_none rfl) (pv_len_t T0 rfl rfl rfl) rfl rfl ?_) | refine awl_nil ?_)
  refine awp_loop (fun m s h => ∃ (k : Nat), k + 1 ≤ xs.length ∧ m = xs.length - k ∧ s = [(0, .t (intsT cp xs)), (3, intA (mnL xs k)), (4, intA ((k + 1 : Nat) : Int))] ∧ h = []) ?_ ⟨0, h0, rfl, rfl, rfl⟩ ssA rcA
  rintro m s h ⟨k, hk, rfl, rfl, rfl⟩
  by_cases hlt : k + 1 < xs.length
  · repeat (first | refine awp_seq ?_ | refine awp_block ?_ | refine awp_region_lit rfl ?_ | refine awp_skip ?_ | with_reducible refine then_n ?_ | refine awp_cond_t rfl (by first | rfl | assumption | exact dT (by omega)) ?_ | (show AWL _ _ _ (⟨_, .move _, _, _, _, _⟩ :: _) _ _ _; refine awl_pw (wt_none rfl) (pv_move rfl rfl) rfl rfl ?_) | (show AWL _ _ _ (⟨_, .assign _, _, _, _, _⟩ :: _) _ _ _; refine awl_pw (wt_none rfl) (pv_assign rfl rfl) rfl rfl ?_) | (show AWL _ _ _ (⟨_, .load _ _, _, _, _, _⟩ :: _) _ _ _; refine awl_lw (wt_none rfl) (lv_elt_sc T0 rfl rfl rfl rfl) rfl rfl rfl ?_) | (show AWL _ _ _ (⟨_, .indexAddr _ _ _, _, _, _, _⟩ :: _) _ _ _; refine awl_pw (wt_none rfl) (pv_ix_t T0 rfl rfl rfl rfl (by omega) ixA) rfl rfl ?_) | (show AWL _ _ _ (⟨_, .binOp .add _ _ _ _, _, _, _, _⟩ :: _) _ _ _; refine awl_pw (wt_none rfl) (pv_add rfl rfl rfl (by first | assumption | exact wr64 (by omega))) rfl rfl ?_) | (show AWL _ _ _ (⟨_, .binOp .lss _ _ _ _, _, _, _, _⟩ :: _) _ _ _; refine awl_pw (wt_none rfl) (pv_lss rfl rfl rfl) rfl rfl ?_) | (show AWL _ _ _ (⟨_, .call ⟨.builtin .len, _, _⟩, _, _, _, _⟩ :: _) _ _ _; refine awl_pw (wt_none rfl) (pv_len_t T0 rfl rfl rfl) rfl rfl ?_) | (show AWL _ _ _ (⟨_, .call ⟨.builtin .min, _, _⟩, _, _, _, _⟩ :: _) _ _ _; refine awl_pw (wt_none rfl) (pv_min2 rfl rfl rfl) rfl rfl ?_) | refine awl_nil ?_)
    refine rnd_n _ _ _ ?_ ⟨k + 1, hlt, rfl, rfl, rfl⟩ ssA rcA
    omega
  have e : xs.length - 1 = k := by omega
  rw [e]
  repeat (first | refine awp_seq ?_ | refine awp_region_lit rfl ?_ | refine awp_exit ?_ | refine awp_ret ?_ | with_reducible refine then_n ?_ | refine awp_cond_f rfl (by first | rfl | assumption | exact dF (by omega)) ?_ | (show AWL _ _ _ (⟨_, .move _, _, _, _, _⟩ :: _) _ _ _; refine awl_pw (wt_none rfl) (pv_move rfl rfl) rfl rfl ?_) | (show AWL _ _ _ (⟨_, .assign _, _, _, _, _⟩ :: _) _ _ _; refine awl_pw (wt_none rfl) (pv_assign rfl rfl) rfl rfl ?_) | (show AWL _ _ _ (⟨_, .binOp .lss _ _ _ _, _, _, _, _⟩ :: _) _ _ _; refine awl_pw (wt_none rfl) (pv_lss rfl rfl rfl) rfl rfl ?_) | (show AWL _ _ _ (⟨_, .call ⟨.builtin .len, _, _⟩, _, _, _, _⟩ :: _) _ _ _; refine awl_pw (wt_none rfl) (pv_len_t T0 rfl rfl rfl) rfl rfl ?_) | refine awl_nil ?_)
  exact body_p (.cons rfl .nil) rfl
theorem min2_p (cp : Bool) (x y : Int) : PCall Try.prog 219 [.t (intsT cp [x, y])] (fun r => r = intA (min x y)) := by
  refine acall_of_awp T0 Try.func219 rfl rfl rfl ?_
  repeat (first | refine awp_seq ?_ | refine awp_region_lit rfl ?_ | (show AWL _ _ _ (⟨_, .move _, _, _, _, _⟩ :: _) _ _ _; refine awl_pw (wt_none rfl) (pv_move rfl rfl) rfl rfl ?_) | (show AWL _ _ _ (⟨_, .assign _, _, _, _, _⟩ :: _) _ _ _; refine awl_pw (wt_none rfl) (pv_assign rfl rfl) rfl rfl ?_) | refine awl_nil ?_)
  refine awl_hw (wt_none rfl) (st_call T0 (smin_p cp [x, y] (by simp) (by simp)) rfl rfl rfl rfl (by first | exact callee_lit | exact callee_v | exact callee_fn | assumption) rcA raA rfl ?_)
  rintro _ rfl
  repeat (first | refine awp_ret ?_ | (show AWL _ _ _ (⟨_, .assign _, _, _, _, _⟩ :: _) _ _ _; refine awl_pw (wt_none rfl) (pv_assign rfl rfl) rfl rfl ?_) | refine awl_nil ?_)
  exact body_p (.cons rfl .nil) rfl
theorem min2_o (g : Nat) (x y : Int) : ACall Try.prog 219 [.v (.slice (some ⟨g, 0, none⟩) 2 2)] [.rw (.slice (some ⟨g, 0, none⟩) 2 2) 3 1 [[intA x], [intA y]]] (fun r h' => r = intA (min x y) ∧ h' = []) :=
  acall_own (min2_p true x y) rfl (intRows_tree [x, y])
end Go.Proofs.Ytlpknbneilgjkaa.C
end
section
namespace Go.Proofs.Ytlpknbneilgjkaa.C
set_option linter.unusedVariables false
set_option linter.unusedSimpArgs false
def lackS (of : HouD → Int → Int) (ow : Nat → Int) : List HouD → Nat → List Int → Int
  | h :: hs, s, x :: t => of h (ow s + x) + lackS of ow hs (s + 1) t
  | _, _, _ => 0
structure LkOk (of : HouD → Int → Int) (ow : Nat → Int) : Prop where
  ow : ∀ s, -1600 ≤ ow s ∧ ow s ≤ 1600
  of : ∀ h p, -1600 ≤ p → p ≤ 1800 → -2000 ≤ of h p ∧ of h p ≤ 2000
end Go.Proofs.Ytlpknbneilgjkaa.C
end
end
section
section
section
namespace Go.Proofs.Ytlpknbneilgjkaa.R
open Go.RowKit
set_option linter.unusedVariables false

def inB (n lo hi : Int) : Bool := decide (lo ≤ n ∧ n ≤ hi)
theorem all_getD {α : Type} {d : α} {l : List α} {p : α → Bool} : l.all p = true ↔ ∀ k, k < l.length → p (l.getD k d) = true := by
  rw [List.all_eq_true]
  constructor
  · intro h k hk
    rw [List.getD_eq_getElem?_getD, List.getElem?_eq_getElem hk]
    exact h _ (List.getElem_mem hk)
  · intro h x hx
    obtain ⟨k, hk, rfl⟩ := List.getElem_of_mem hx
    have := h k hk
    rw [List.getD_eq_getElem?_getD, List.getElem?_eq_getElem hk] at this
    exact this
end Go.Proofs.Ytlpknbneilgjkaa.R
end
section
namespace Go.Proofs.Ytlpknbneilgjkaa.R
set_option linter.unusedVariables false

end Go.Proofs.Ytlpknbneilgjkaa.R
end
section
namespace Go.Proofs.Ytlpknbneilgjkaa.R
open Go.RowKit
set_option linter.unusedVariables false
set_option linter.unusedSimpArgs false
end Go.Proofs.Ytlpknbneilgjkaa.R
end
section
namespace Go.Proofs.Ytlpknbneilgjkaa.R
open Go.RowKit
set_option linter.unusedVariables false
end Go.Proofs.Ytlpknbneilgjkaa.R
end
section
namespace Go.Proofs.Ytlpknbneilgjkaa.R
open Go.RowKit
set_option linter.unusedVariables false
end Go.Proofs.Ytlpknbneilgjkaa.R
end

end
section
section
namespace Go.Proofs.Ytlpknbneilgjkaa.R
open Go.RowKit
set_option linter.unusedVariables false

theorem take_succ_getD {α : Type} {l : List α} {k : Nat} (d : α) (h : k < l.length) : l.take (k + 1) = l.take k ++ [l.getD k d] := by
  rw [List.take_succ_eq_append_getElem h, List.getD_eq_getElem?_getD, List.getElem?_eq_getElem h]; rfl

def sumI : List Int → Int
  | [] => 0
  | x :: l => x + sumI l
theorem sumI_append (l m : List Int) : sumI (l ++ m) = sumI l + sumI m := by
  induction l with
  | nil => simp [sumI]
  | cons x l ih => simp [sumI, ih]; omega
theorem sumI_bd (l : List Int) (B : Int) (h : ∀ x ∈ l, -B ≤ x ∧ x ≤ B) : -(B * l.length) ≤ sumI l ∧ sumI l ≤ B * l.length := by
  induction l with
  | nil => simp [sumI]
  | cons x l ih =>
    have h1 := h x (by simp)
    have h2 := ih (fun y hy => h y (by simp [hy]))
    simp only [sumI, List.length_cons, Int.natCast_add, Int.cast_ofNat_Int]
    rw [Int.mul_add]; omega
theorem getD_mem {α : Type} {l : List α} {k : Nat} {d : α} (h : k < l.length) : l.getD k d ∈ l := by
  rw [List.getD_eq_getElem?_getD, List.getElem?_eq_getElem h]
  exact List.getElem_mem h

end Go.Proofs.Ytlpknbneilgjkaa.R
end
section
namespace Go.Proofs.Ytlpknbneilgjkaa.R
open Go.RowKit
set_option linter.unusedVariables false

end Go.Proofs.Ytlpknbneilgjkaa.R
end
section
namespace Go.Proofs.Ytlpknbneilgjkaa.R
open Go.RowKit
set_option linter.unusedVariables false

end Go.Proofs.Ytlpknbneilgjkaa.R
end
section
namespace Go.Proofs.Ytlpknbneilgjkaa.R
open Go.RowKit
set_option linter.unusedVariables false

end Go.Proofs.Ytlpknbneilgjkaa.R
end
section
namespace Go.Proofs.Ytlpknbneilgjkaa.R
open Go.RowKit
set_option linter.unusedVariables false

end Go.Proofs.Ytlpknbneilgjkaa.R
end
section
namespace Go.Proofs.Ytlpknbneilgjkaa.R
open Go.RowKit
set_option linter.unusedVariables false

end Go.Proofs.Ytlpknbneilgjkaa.R
end

end
section
section
namespace Go.Proofs.Ytlpknbneilgjkaa.R
open Go Go.RowKit Go.Tl
set_option linter.unusedVariables false
section
variable {w : World} {S : Nat → Prop}
theorem ag_inv {cs : List AV} {v : Value} (h : VRel w S (.ag cs) v) : ∃ vs : List Value, v = .agg vs.toArray ∧ VRels w S cs vs := by
  cases h with | ag hl h => exact ⟨_, rfl, hl, h⟩
theorem rels1 {x : AV} {r : List AV} {vs : List Value} (h : VRels w S (x :: r) vs) : ∃ v us, vs = v :: us ∧ VRel w S x v ∧ VRels w S r us := by
  cases vs with
  | nil => have := h.1; simp at this
  | cons v us => exact ⟨v, us, rfl, h.2 0 x v rfl rfl, by have := h.1; simpa using this, fun j a b ha hb => h.2 (j + 1) a b (by simpa using ha) (by simpa using hb)⟩
theorem rels0 {vs : List Value} (h : VRels w S [] vs) : vs = [] := List.length_eq_zero_iff.1 h.1.symm
end
abbrev noneA : AV := .v (.slice none 0 0)
end Go.Proofs.Ytlpknbneilgjkaa.R
namespace Go.Proofs.Ytlpknbneilgjkaa.R
open Go Go.RowKit Go.Tl
set_option linter.unusedVariables false
set_option linter.unusedSimpArgs false
theorem rows_tree {α : Type} {d : α} (xs : List α) (row : α → List AV) (f : α → List Tr) (h : ∀ x, row x = (f x).map AV.ofTr) : ∀ k, k < xs.length → (xs.map row).getD k [] = ((fun k => f (xs.getD k d)) k).map AV.ofTr := fun k hk => by
  simp [List.getD_eq_getElem?_getD, hk, h]
theorem rows_step {α : Type} {d : α} {xs : List α} {k : Nat} (row : α → List AV) (hk : k < xs.length) : (xs.take (k + 1)).map row = (xs.take k).map row ++ [row (xs.getD k d)] := by
  rw [take_succ_getD d hk, List.map_append]; rfl
theorem inB_iff {n lo hi : Int} : inB n lo hi = true ↔ lo ≤ n ∧ n ≤ hi := by simp [inB]
end Go.Proofs.Ytlpknbneilgjkaa.R
end
section
namespace Go.Proofs.Ytlpknbneilgjkaa.R
open Go Go.RowKit Go.ChangeShapes
set_option linter.unusedVariables false
set_option linter.unusedSimpArgs false
section
variable {H : Type} {enc : TypeId × Value → H} {P : Program} {w : World} {base : Nat} {spare : Nat → Bool} {held : Bool}
end
end Go.Proofs.Ytlpknbneilgjkaa.R
end
section
namespace Go.Proofs.Ytlpknbneilgjkaa.R
open Go Go.RowKit Go.Tl
set_option linter.unusedVariables false
section
variable {w : World}
end
end Go.Proofs.Ytlpknbneilgjkaa.R
end
section
namespace Go.Proofs.Ytlpknbneilgjkaa.R
open Go Go.RowKit Go.ChangeShapes Go.Tl
set_option linter.unusedVariables false
section
variable {P : Program} {H : Type} {enc : TypeId × Value → H} {w : World} {base : Nat} {spare : Nat → Bool} {held : Bool}
end
end Go.Proofs.Ytlpknbneilgjkaa.R
end

end
section
section
namespace Go.Proofs.Ytlpknbneilgjkaa.R
open Go.RowKit
set_option linter.unusedVariables false

end Go.Proofs.Ytlpknbneilgjkaa.R
end
section
namespace Go.Tl
open Go Go.RowKit
set_option linter.unusedVariables false
end Go.Tl
namespace Go.Proofs.Ytlpknbneilgjkaa.R
open Go Go.RowKit Go.Tl
set_option linter.unusedVariables false
end Go.Proofs.Ytlpknbneilgjkaa.R
end
section
namespace Go.Proofs.Ytlpknbneilgjkaa.R
open Go.RowKit
set_option linter.unusedVariables false
set_option linter.unusedSectionVars false
section

end
end Go.Proofs.Ytlpknbneilgjkaa.R
end

end
namespace Go.Tl
open Go Go.RowKit
end Go.Tl
namespace Go.Proofs.Ytlpknbneilgjkaa.R
open Go Go.RowKit Go.Tl
set_option linter.unusedVariables false
set_option linter.unusedSimpArgs false
set_option maxRecDepth 100000
set_option maxHeartbeats 4000000
end Go.Proofs.Ytlpknbneilgjkaa.R

namespace Go.Tl
open Go Go.RowKit
end Go.Tl
namespace Go.Proofs.Ytlpknbneilgjkaa.R
open Go Go.RowKit Go.Tl
set_option linter.unusedVariables false
set_option linter.unusedSimpArgs false
set_option maxRecDepth 100000
set_option maxHeartbeats 4000000
end Go.Proofs.Ytlpknbneilgjkaa.R
end
section
namespace Go.Tl
open Go Go.RowKit
set_option linter.unusedVariables false
set_option linter.unusedSimpArgs false
def packOb (hc : List Ent) : Ob where
  fp := Own hc
  Φ := fun w S => (∀ e ∈ hc, ERel w S e) ∧ hc.Pairwise Apart
  lt := fun {w S} H g ⟨e, he, hb⟩ => (H.1 e he).lt g hb
  keep := fun {w w' S S'} H h1 h2 h3 h4 hS hw hg => ⟨fun e he => (H.1 e he).mono h1 h2 h3 h4 hS hw (fun g hb => hg g ⟨e, he, hb⟩), H.2⟩
theorem pack_hrel {w : World} {S : Nat → Prop} {hc h : List Ent} (H : HRel w S (hc ++ h)) : HRel w S (.ob (packOb hc) :: h) := by
  have hs := List.pairwise_append.1 H.sep
  refine ⟨fun e he => ?_, fun e he g hg => ?_, List.pairwise_cons.2 ⟨fun e he g hg hg' => ?_, hs.2.1⟩⟩
  · rcases List.mem_cons.1 he with rfl | he
    · exact ⟨fun e he => H.ent e (List.mem_append_left _ he), hs.1⟩
    · exact H.ent e (List.mem_append_right _ he)
  · rcases List.mem_cons.1 he with rfl | he
    · obtain ⟨e, he, hg⟩ := hg
      exact H.off e (List.mem_append_left _ he) g hg
    · exact H.off e (List.mem_append_right _ he) g hg
  · obtain ⟨e', he', hg⟩ := hg
    exact hs.2.2 e' he' e he g hg hg'
theorem unpack_hrel {w : World} {S : Nat → Prop} {hc h : List Ent} (H : HRel w S (.ob (packOb hc) :: h)) : HRel w S (hc ++ h) := by
  have hs := List.pairwise_cons.1 H.sep
  have ho := H.ent _ List.mem_cons_self
  refine ⟨fun e he => ?_, fun e he g hg => ?_, List.pairwise_append.2 ⟨ho.2, hs.2, fun e he e' he' g hg hg' => ?_⟩⟩
  · rcases List.mem_append.1 he with he | he
    · exact ho.1 e he
    · exact H.ent e (List.mem_cons_of_mem _ he)
  · rcases List.mem_append.1 he with he | he
    · exact H.off _ List.mem_cons_self g ⟨e, he, hg⟩
    · exact H.off e (List.mem_cons_of_mem _ he) g hg
  · exact hs.1 e' he' g ⟨e, he, hg⟩ hg'
theorem own_pack {hc h : List Ent} {g : Nat} : Own (.ob (packOb hc) :: h) g ↔ Own (hc ++ h) g := by
  constructor
  · rintro ⟨e, he, hg⟩
    rcases List.mem_cons.1 he with rfl | he
    · obtain ⟨e, he, hg⟩ := hg
      exact ⟨e, List.mem_append_left _ he, hg⟩
    · exact ⟨e, List.mem_append_right _ he, hg⟩
  · rintro ⟨e, he, hg⟩
    rcases List.mem_append.1 he with he | he
    · exact ⟨_, List.mem_cons_self, ⟨e, he, hg⟩⟩
    · exact ⟨e, List.mem_cons_of_mem _ he, hg⟩
theorem acall_pack {P : Program} {g : Nat} {args : List AV} {hc : List Ent} {R : AV → Prop} (C : ACall P g args hc (fun r h' => R r ∧ h' = hc)) : ACall P g args [.ob (packOb hc)] (fun r h' => R r ∧ h' = [.ob (packOb hc)]) := fun w S vs h1 h2 h3 => by
  have h2' : HRel w S hc := by have := unpack_hrel h2; rwa [List.append_nil] at this
  have hown : ∀ b, Own [.ob (packOb hc)] b ↔ Own hc b := fun b => by have := own_pack (hc := hc) (h := []) (g := b); rwa [List.append_nil] at this
  refine (C w S vs h1 h2' h3).mono fun e w' ⟨v, S', r, h', e1, ⟨hR, eh⟩, hvr, E, hlt, hr, hl⟩ => ?_
  subst eh
  refine ⟨v, S', r, _, e1, ⟨hR, rfl⟩, hvr, ⟨E.os, E.tape, E.output, E.size, fun b hb hn => E.keep b hb (fun ho => hn ((hown b).2 ho)), E.stab, fun b hb => ?_⟩, hlt, ?_, fun e he g hg => ?_⟩
  · rcases E.new b hb with h | h | h
    · exact .inl h
    · exact .inr (.inl h)
    · exact .inr (.inr ((hown b).2 h))
  · exact pack_hrel (w := w') (S := S') (h := []) (by rwa [List.append_nil])
  · obtain ⟨e2, he2, hg2⟩ := (hown g).1 ⟨e, he, hg⟩
    rcases hl e2 he2 g hg2 with h | h
    · exact .inl ((hown g).2 h)
    · exact .inr h
end Go.Tl
end
section
namespace Go.Proofs.Ytlpknbneilgjkaa.R
open Go Go.RowKit Go.Tl
set_option linter.unusedVariables false
set_option linter.unusedSimpArgs false
def fRows (f : Nat → Int) (m : Nat) : List (List AV) := (List.range m).map fun k => intRow (f k)
theorem fRows_len (f : Nat → Int) (m : Nat) : (fRows f m).length = m := by simp [fRows]
theorem fRows_at {f : Nat → Int} {m j : Nat} (hj : j < m) : ((fRows f m).getD j [])[0]? = some (intA (f j)) := by
  simp [fRows, List.getD_eq_getElem?_getD, hj, intRow]
theorem fRows_set {f g : Nat → Int} {m j : Nat} {v : Int} (hj : j < m) (hg : ∀ k, k < m → g k = if k = j then v else f k) : (fRows f m).set j (spA ((fRows f m).getD j []) 0 [intA v]) = fRows g m := by
  have e : spA ((fRows f m).getD j []) 0 [intA v] = intRow v := by simp [fRows, List.getD_eq_getElem?_getD, hj, intRow, spA]
  rw [e]
  refine List.ext_getElem? fun k => ?_
  rw [List.getElem?_set]
  simp only [fRows, List.length_map, List.length_range, List.getElem?_map]
  by_cases hk : k < m
  · rw [List.getElem?_range hk]
    have := hg k hk
    by_cases e : j = k
    · subst e; simp [hj, this]
    · rw [if_neg e, Option.map_some, Option.map_some, this, if_neg (fun h => e h.symm)]
  · rw [List.getElem?_eq_none (l := List.range m) (by simp; omega)]
    simp; omega
theorem fRows_tree {f : Nat → Int} {xs : List Int} {m : Nat} (h : xs = (List.range m).map f) : ∀ k, k < m → (fRows f m).getD k [] = ((fun k => [.sc (.int .i64 (xs.getD k 0))]) k : List Tr).map AV.ofTr := fun k hk => by
  subst h
  simp [fRows, List.getD_eq_getElem?_getD, hk, intRow, AV.ofTr]
end Go.Proofs.Ytlpknbneilgjkaa.R
end
