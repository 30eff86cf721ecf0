/- Operations that only compute or look, over plain trees. -/
import Derived.Test.YtilhflfbbfeakaaTl2
namespace Go.Tl
open Go Go.RowKit
set_option linter.unusedVariables false
set_option linter.unusedSimpArgs false

section
variable {P : Program} {o : Oper} {s : Slots} {h : List Ent}

/-- a binary operation on literal values -/
theorem pv_bin {op : BinOp} {t t' : TypeId} {x z : Operand} {u v r : Value} (ho : o.op = .binOp op t x z t') (hx : evA s x = some (.v u)) (hz : evA s z = some (.v v))
    (hr : ∀ w, (do eqGuard op t x z u v; binOp op t u v : Sem Value).run P w = .ok r w) : PV P o s (.v r) := fun w S a hs =>
  ⟨r, fun w' => by
    have h1 := hr w'
    simp only [execOp, ho, hs.lit hx, hs.lit hz]
    rw [Sem.run_bind, h1]
    rfl, .v _⟩
theorem beq_dec (a b : Int) : (a == b) = decide (a = b) := by by_cases h : a = b <;> simp [h]
/-! integers and bools -/
section
variable {t t' : TypeId} {x z : Operand} {k : IntKind} {a b c : Int}
theorem pv_add (ho : o.op = .binOp .add t x z t') (hx : evA s x = some (.v (.int k a))) (hz : evA s z = some (.v (.int k b))) (hc : k.wrap (a + b) = c) : PV P o s (.v (.int k c)) :=
  pv_bin ho hx hz (fun w => by subst hc; simp [go_sem])
theorem pv_sub (ho : o.op = .binOp .sub t x z t') (hx : evA s x = some (.v (.int k a))) (hz : evA s z = some (.v (.int k b))) (hc : k.wrap (a - b) = c) : PV P o s (.v (.int k c)) :=
  pv_bin ho hx hz (fun w => by subst hc; simp [go_sem])
theorem pv_mul (ho : o.op = .binOp .mul t x z t') (hx : evA s x = some (.v (.int k a))) (hz : evA s z = some (.v (.int k b))) (hc : k.wrap (a * b) = c) : PV P o s (.v (.int k c)) :=
  pv_bin ho hx hz (fun w => by subst hc; simp [go_sem])
theorem pv_quo (ho : o.op = .binOp .quo t x z t') (hx : evA s x = some (.v (.int k a))) (hz : evA s z = some (.v (.int k b))) (h0 : b ≠ 0) (hc : k.wrap (a.tdiv b) = c) : PV P o s (.v (.int k c)) :=
  pv_bin ho hx hz (fun w => by subst hc; simp [go_sem, h0])
theorem pv_rem (ho : o.op = .binOp .rem t x z t') (hx : evA s x = some (.v (.int k a))) (hz : evA s z = some (.v (.int k b))) (h0 : b ≠ 0) (hc : a.tmod b = c) : PV P o s (.v (.int k c)) :=
  pv_bin ho hx hz (fun w => by subst hc; simp [go_sem, h0])
theorem pv_lss (ho : o.op = .binOp .lss t x z t') (hx : evA s x = some (.v (.int k a))) (hz : evA s z = some (.v (.int k b))) : PV P o s (.v (.bool (decide (a < b)))) :=
  pv_bin ho hx hz (fun w => by simp [go_sem])
theorem pv_leq (ho : o.op = .binOp .leq t x z t') (hx : evA s x = some (.v (.int k a))) (hz : evA s z = some (.v (.int k b))) : PV P o s (.v (.bool (decide (a ≤ b)))) :=
  pv_bin ho hx hz (fun w => by simp [go_sem])
theorem pv_gtr (ho : o.op = .binOp .gtr t x z t') (hx : evA s x = some (.v (.int k a))) (hz : evA s z = some (.v (.int k b))) : PV P o s (.v (.bool (decide (b < a)))) :=
  pv_bin ho hx hz (fun w => by simp [go_sem])
theorem pv_geq (ho : o.op = .binOp .geq t x z t') (hx : evA s x = some (.v (.int k a))) (hz : evA s z = some (.v (.int k b))) : PV P o s (.v (.bool (decide (b ≤ a)))) :=
  pv_bin ho hx hz (fun w => by simp [go_sem])
theorem pv_eql (ho : o.op = .binOp .eql t x z t') (hx : evA s x = some (.v (.int k a))) (hz : evA s z = some (.v (.int k b))) : PV P o s (.v (.bool (decide (a = b)))) :=
  pv_bin ho hx hz (fun w => by simp only [go_sem]; simp; exact beq_dec _ _)
theorem pv_neq (ho : o.op = .binOp .neq t x z t') (hx : evA s x = some (.v (.int k a))) (hz : evA s z = some (.v (.int k b))) : PV P o s (.v (.bool (decide (a ≠ b)))) :=
  pv_bin ho hx hz (fun w => by simp only [go_sem]; simp [bne, beq_dec])
end
theorem pv_un {op : UnOp} {t : TypeId} {x : Operand} {u r : Value} (ho : o.op = .unOp op t x) (hx : evA s x = some (.v u)) (hr : ∀ w, (Op.unary op u).run P w = .ok r w) : PV P o s (.v r) := fun w S a hs =>
  ⟨r, fun w' => by simp [execOp, ho, hs.lit hx, hr], .v _⟩
theorem pv_not {t : TypeId} {x : Operand} {b : Bool} (ho : o.op = .unOp .not t x) (hx : evA s x = some (.v (.bool b))) : PV P o s (.v (.bool (!b))) := pv_un ho hx (fun w => by simp [Op.unary])
theorem pv_neg {t : TypeId} {x : Operand} {k : IntKind} {a c : Int} (ho : o.op = .unOp .neg t x) (hx : evA s x = some (.v (.int k a))) (hc : k.wrap (0 - a) = c) : PV P o s (.v (.int k c)) := pv_un ho hx (fun w => by subst hc; simp [Op.unary, go_sem])
theorem pv_convert {src dst : TypeId} {x : Operand} {k k' : IntKind} {a c : Int} {d : TypeDesc} (ho : o.op = .convert src dst x) (hx : evA s x = some (.v (.int k a))) (hs : P.underlying src = some d) (hd : P.underlying dst = some (.int k')) (hc : k'.wrap a = c) : PV P o s (.v (.int k' c)) := fun w S a hs' =>
  ⟨.int k' c, fun w' => by subst hc; simp [execOp, ho, hs'.lit hx, convert, run_underlying hs, run_underlying hd, Conv.intToInt], .v _⟩

/-! addresses -/
theorem pv_nilCheck {x : Operand} {g k : Nat} (ho : o.op = .nilCheck x) (hx : evA s x = some (.v (.pointer (some ⟨g, k, none⟩)))) : PV P o s (.v (.pointer (some ⟨g, k, none⟩))) := fun w S a hs =>
  ⟨_, fun w' => by simp [execOp, ho, hs.lit hx], .v _⟩
theorem run_fieldAt' (T : TT P) {t i off : Nat} (hf : f3 T.fld t i = some off) (b k : Nat) (w : World) : (Instr.fieldAt t (.pointer (some ⟨b, k, none⟩)) i).run P w = .ok (.pointer (some ⟨b, k + off, none⟩)) w := by
  obtain ⟨fs, f, j, hu, hfi, hoff, hj, hne⟩ := T.fld_at hf
  simp [Instr.fieldAt, run_underlying hu, hfi, Instr.sureAddr, fieldPlace, run_sizeOf' hj, hne, hoff, Addr.add_lit]
theorem pv_fieldAddr (T : TT P) {t : TypeId} {x : Operand} {i g k off : Nat} (ho : o.op = .fieldAddr t x i) (hx : evA s x = some (.v (.pointer (some ⟨g, k, none⟩)))) (hf : f3 T.fld t i = some off) : PV P o s (.v (.pointer (some ⟨g, k + off, none⟩))) := fun w S a hs =>
  ⟨_, fun w' => by simp [execOp, ho, hs.lit hx, run_fieldAt' T hf], .v _⟩
theorem pv_fieldAddr_elt (T : TT P) {t : TypeId} {x : Operand} {i sz n k off off' : Nat} {f : Nat → List Tr} (ho : o.op = .fieldAddr t x i) (hx : evA s x = some (.elt sz n f k off')) (hf : f3 T.fld t i = some off) : PV P o s (.elt sz n f k (off' + off)) := fun w S a hs => by
  have h1 := hs.eval hx
  generalize hv : a.eval x = v at *
  cases h1 with
  | @elt _ _ _ _ _ _ b off0 c h hk => exact ⟨_, fun w' => by simp [execOp, ho, hv, run_fieldAt' T hf]; rfl, by rw [Nat.add_assoc]; exact .elt h hk⟩
theorem pv_fieldAddr_rp (T : TT P) {t : TypeId} {x : Operand} {i sz k off off' : Nat} {v : Value} (ho : o.op = .fieldAddr t x i) (hx : evA s x = some (.rp v sz k off')) (hf : f3 T.fld t i = some off) : PV P o s (.rp v sz k (off' + off)) := fun w S a hs => by
  have h1 := hs.eval hx
  generalize hv : a.eval x = v' at *
  cases h1 with
  | @rp g n cap => exact ⟨_, fun w' => by simp [execOp, ho, hv, run_fieldAt' T hf]; rfl, by rw [Nat.add_assoc]; exact .rp⟩
theorem pv_indexAddr_t (T : TT P) {t e sz bt n : Nat} {x y : Operand} {cp : Bool} {f : Nat → List Tr} {k : IntKind} {i : Int} (ho : o.op = .indexAddr t x y) (hx : evA s x = some (.t (.sl cp sz n f))) (hy : evA s y = some (.v (.int k i)))
    (ht : f2 T.elm t = some (e, sz, bt)) (h0 : 0 ≤ i) (hn : i < n) : PV P o s (.elt sz n f i.toNat 0) := fun w S a hs => by
  obtain ⟨j, hu, hj, hsz, _, hne⟩ := T.elm_at ht
  have h1 := hs.eval hx
  have h2 := hs.lit hy
  generalize hv : a.eval x = v at *
  cases h1 with
  | t h =>
    have h' := h
    cases h with
    | @sl _ _ _ _ ad c val hc hl hh ih =>
      have hi : i.toNat < n := by omega
      obtain ⟨b, off, rfl, hb, hcell⟩ := hh i.toNat hi
      refine ⟨.pointer (some ⟨b, off + i.toNat * sz + 0, none⟩), fun w' => ?_, .elt h' hi⟩
      simp [execOp, ho, hv, h2, Instr.indexAt, asIntOf, run_underlying hu, run_sizeOf' hj, h0, hn, hsz, Addr.add_lit]
theorem pv_indexAddr_own (T : TT P) {t e sz bt g n c : Nat} {x y : Operand} {k : IntKind} {i : Int} (ho : o.op = .indexAddr t x y) (hx : evA s x = some (.v (.slice (some ⟨g, 0, none⟩) n c))) (hy : evA s y = some (.v (.int k i)))
    (ht : f2 T.elm t = some (e, sz, bt)) (h0 : 0 ≤ i) (hn : i < n) : PV P o s (.rp (.slice (some ⟨g, 0, none⟩) n c) sz i.toNat 0) := fun w S a hs => by
  obtain ⟨j, hu, hj, hsz, _, hne⟩ := T.elm_at ht
  have h1 := hs.lit hx
  have h2 := hs.lit hy
  refine ⟨.pointer (some ⟨g, i.toNat * sz + 0, none⟩), fun w' => ?_, .rp⟩
  simp [execOp, ho, h1, h2, Instr.indexAt, asIntOf, run_underlying hu, run_sizeOf' hj, h0, hn, hsz, Addr.add_lit]
theorem pv_indexAddr_arr (T : TT P) {t n e m g off : Nat} {x y : Operand} {k : IntKind} {i : Int} (ho : o.op = .indexAddr t x y) (hx : evA s x = some (.v (.pointer (some ⟨g, off, none⟩)))) (hy : evA s y = some (.v (.int k i)))
    (ht : f2 T.arr t = some (n, e, m)) (h0 : 0 ≤ i) (hn : i < n) : PV P o s (.v (.pointer (some ⟨g, off + i.toNat * m, none⟩))) := fun w S a hs => by
  obtain ⟨j, hu, hj, hsz, hne⟩ := T.arr_at ht
  have h1 := hs.lit hx
  have h2 := hs.lit hy
  refine ⟨_, fun w' => ?_, .v _⟩
  simp [execOp, ho, h1, h2, Instr.indexAt, asIntOf, run_underlying hu, run_sizeOf' hj, h0, hn, hsz, Addr.add_lit, Instr.sureAddr]

/-! the builtins len, min, max -/
theorem pv_len_t (T : TT P) {t e sz bt n : Nat} {x : Operand} {cp : Bool} {sz' : Nat} {f : Nat → List Tr} (ho : o.op = .call { callee := .builtin .len, args := #[x], argTypes := #[t] }) (hx : evA s x = some (.t (.sl cp sz' n f)))
    (ht : f2 T.elm t = some (e, sz, bt)) : PV P o s (.v (.int .i64 n)) := fun w S a hs => by
  obtain ⟨j, hu, _⟩ := T.elm_at ht
  have h1 := hs.eval hx
  generalize hv : a.eval x = v at *
  cases h1 with
  | t h =>
    cases h with
    | sl => exact ⟨_, fun w' => by simp [execOp, ho, resolve, invoke, builtin, Builtin.len_, hv, run_underlying hu, goInt], .v _⟩
theorem pv_len_v (T : TT P) {t e sz bt n c : Nat} {ad : Option Addr} {x : Operand} (ho : o.op = .call { callee := .builtin .len, args := #[x], argTypes := #[t] }) (hx : evA s x = some (.v (.slice ad n c)))
    (ht : f2 T.elm t = some (e, sz, bt)) : PV P o s (.v (.int .i64 n)) := fun w S a hs => by
  obtain ⟨j, hu, _⟩ := T.elm_at ht
  exact ⟨_, fun w' => by simp [execOp, ho, resolve, invoke, builtin, Builtin.len_, hs.lit hx, run_underlying hu, goInt], .v _⟩
theorem pv_max2 {x y : Operand} {t1 t2 : TypeId} {k : IntKind} {a b : Int} (ho : o.op = .call { callee := .builtin .max, args := #[x, y], argTypes := #[t1, t2] }) (hx : evA s x = some (.v (.int k a))) (hy : evA s y = some (.v (.int k b))) :
    PV P o s (.v (.int k (max a b))) := fun w S a' hs =>
  ⟨_, fun w' => by
    have e : (if a < b then b else a) = max a b := by rw [Int.max_def]; split <;> split <;> omega
    simp [execOp, ho, resolve, invoke, builtin, Builtin.max_, Builtin.max2, hs.lit hx, hs.lit hy, e], .v _⟩
theorem pv_min2 {x y : Operand} {t1 t2 : TypeId} {k : IntKind} {a b : Int} (ho : o.op = .call { callee := .builtin .min, args := #[x, y], argTypes := #[t1, t2] }) (hx : evA s x = some (.v (.int k a))) (hy : evA s y = some (.v (.int k b))) :
    PV P o s (.v (.int k (min a b))) := fun w S a' hs =>
  ⟨_, fun w' => by
    have e : (if b < a then b else a) = min a b := by rw [Int.min_def]; split <;> split <;> omega
    simp [execOp, ho, resolve, invoke, builtin, Builtin.min_, Builtin.min2, hs.lit hx, hs.lit hy, e], .v _⟩

/-! tuples, functions -/
theorem pv_extract {x : Operand} {i : Nat} {vs : List AV} {y : AV} (ho : o.op = .extract x i) (hx : evA s x = some (.tup vs)) (hy : vs[i]? = some y) : PV P o s y := fun w S a hs => by
  have h1 := hs.eval hx
  generalize hv : a.eval x = v at *
  cases h1 with
  | tup hl hh =>
    obtain ⟨u, hu, hr⟩ := VRels.get ⟨hl, hh⟩ hy
    exact ⟨u, fun w' => by simp [execOp, ho, hv, Instr.extract, hu], hr⟩
theorem pv_makeFunc {g : Fn} {first caps : Array Operand} {fs cs : List Value} (ho : o.op = .makeFunc g first caps) (hf : first.toList.map (evA s) = (fs.map AV.v).map some) (hc : caps.toList.map (evA s) = (cs.map AV.v).map some) :
    PV P o s (.v (.func g fs.toArray cs.toArray)) := fun w S a hs => by
  have h1 := VRels.lits_inv (hs.evals hf)
  have h2 := VRels.lits_inv (hs.evals hc)
  refine ⟨_, fun w' => ?_, .v _⟩
  have e1 : first.map a.eval = fs.toArray := by rw [← h1, ← Array.toList_map]
  have e2 : caps.map a.eval = cs.toArray := by rw [← h2, ← Array.toList_map]
  simp [execOp, ho, Instr.makeFunc, e1, e2]
theorem pv_makeFunc_av {g : Fn} {first caps : Array Operand} {fs cs : List AV} (ho : o.op = .makeFunc g first caps) (hf : first.toList.map (evA s) = fs.map some) (hc : caps.toList.map (evA s) = cs.map some) :
    PV P o s (.fn g fs cs) := fun w S a hs => by
  have h1 := hs.evals hf
  have h2 := hs.evals hc
  refine ⟨.func g (first.map a.eval) (caps.map a.eval), fun w' => by simp [execOp, ho, Instr.makeFunc], ?_⟩
  have e1 : first.map a.eval = (first.toList.map a.eval).toArray := by rw [← Array.toList_map]
  have e2 : caps.map a.eval = (caps.toList.map a.eval).toArray := by rw [← Array.toList_map]
  rw [e1, e2]
  exact .fn h1.1 h1.2 h2.1 h2.2

/-! loads -/
def AV.ofTr : Tr → AV
  | .sc u => .v u
  | .sl cp sz n f => .t (.sl cp sz n f)
theorem TRel.av {w : World} {S : Nat → Prop} {x : Tr} {v : Value} (h : TRel w S x v) : VRel w S (AV.ofTr x) v := by
  cases x with
  | sc u => cases h; exact .v _
  | sl cp sz n f => exact .t h
theorem run_loadCells' {w : World} {b o : Nat} {vs : List Value} (hc : ∀ j v, vs[j]? = some v → w.cell? ⟨b, o + j, none⟩ = some v) : (loadCells ⟨b, o, none⟩ vs.length).run P w = .ok vs.toArray w := by
  have key : ∀ (n i : Nat) (acc : Array Value), n + i = vs.length → acc = (vs.take i).toArray → (loadCellsFrom ⟨b, o, none⟩ i n acc).run P w = .ok vs.toArray w := by
    intro n
    induction n with
    | zero => intro i acc hi ha; subst ha; simp [loadCellsFrom, show i = vs.length by omega]
    | succ n ih =>
      intro i acc hi ha
      have hlt : i < vs.length := by omega
      have h1 := hc i vs[i] (List.getElem?_eq_getElem hlt)
      simp only [loadCellsFrom, Sem.run_bind, run_load, Addr.add_lit, h1, Result.andThen_ok]
      refine ih (i + 1) _ (by omega) ?_
      subst ha
      rw [List.take_succ_eq_append_getElem hlt]
      simp
  exact key vs.length 0 #[] (by omega) (by simp)
theorem run_loadVar' (T : TT P) {t n : Nat} {ag : Bool} (ht : f2 T.siz t = some (n, ag)) {w : World} {b o : Nat} {vs : List Value} (hn : vs.length = n) (h1 : ag = false → n = 1)
    (hc : ∀ j v, vs[j]? = some v → w.cell? ⟨b, o + j, none⟩ = some v) : (loadVar t ⟨b, o, none⟩).run P w = .ok (if ag then .agg vs.toArray else vs.getD 0 undef) w := by
  obtain ⟨j, d, hj, hjn, hne, hu, hd⟩ := T.siz_at ht
  cases ag with
  | true => simp [loadVar, run_isAgg' hu, hd, run_sizeOf' hj, hjn, ← hn, run_loadCells' hc]
  | false =>
    have hn1 : vs.length = 1 := by rw [hn]; exact h1 rfl
    match vs, hn1 with
    | [v], _ =>
      have := hc 0 v rfl
      simp at this
      simp [loadVar, run_isAgg' hu, hd, this]
/-- what is loaded from cells: one, or n by value -/
def ldA (ag : Bool) (n : Nat) (cs : List AV) : AV := if ag then .ag (cs.take n) else (cs.headD (.v undef))
theorem ldA_rel {w : World} {S : Nat → Prop} {ag : Bool} {n : Nat} {cs : List AV} {vs : List Value} (h : VRels w S cs vs) (hl : n ≤ cs.length) (h0 : n ≠ 0) :
    VRel w S (ldA ag n cs) (if ag then .agg (vs.take n).toArray else (vs.take n).getD 0 undef) := by
  cases ag with
  | true => simp only [ldA, if_true]; exact .ag (h.take n).1 (h.take n).2
  | false =>
    simp only [ldA, if_false]
    have hl' := h.1
    match cs, vs, n, h0 with
    | [], _, _, _ => simp at hl; omega
    | c :: cs, [], _, _ => simp at hl'
    | c :: cs, v :: vs, n + 1, _ => simpa using h.2 0 c v rfl rfl
theorem lv_cl (T : TT P) {t n g off : Nat} {x : Operand} {ag : Bool} {T' : TypeId} {cs : List AV} (ho : o.op = .load t x) (hx : evA s x = some (.v (.pointer (some ⟨g, off, none⟩)))) (ht : f2 T.siz t = some (n, ag))
    (hm : Mem1 (.cl g T' cs) h) (hl : off + n ≤ cs.length) (h1 : ag = true ∨ n = 1) : LV P o s h (some (.cl g T' cs)) (ldA ag n (cs.drop off)) := fun w S a hs hh => by
  obtain ⟨vs, hv, hr⟩ := hh.ent _ hm.mem
  have hlv : off + n ≤ vs.length := by rw [← hr.1]; exact hl
  obtain ⟨j, d, hj, hjn, hne, hu, hd⟩ := T.siz_at ht
  refine ⟨if ag then .agg ((vs.drop off).take n).toArray else ((vs.drop off).take n).getD 0 undef, g, fun w' hw' => ?_, ldA_rel (hr.drop off) (by simp; omega) hne, .inr ⟨_, rfl, hm.mem, rfl⟩⟩
  have := run_loadVar' T ht (w := w') (b := g) (o := off) (vs := (vs.drop off).take n) (by simp; omega) (fun e => h1.resolve_left (by rw [e]; simp)) (fun j v hjv => by
    rw [List.getElem?_take] at hjv
    split at hjv
    · rw [List.getElem?_drop] at hjv
      simp [World.cell?, hw', hv, hjv]
    · cases hjv)
  simp [execOp, ho, hs.lit hx, Instr.loadAt, Instr.sureAddr, this]
theorem VRels.ofTr {w : World} {S : Nat → Prop} {xs : List Tr} {vs : List Value} (hl : xs.length = vs.length) (h : ∀ (j : Nat) (x : Tr) (v : Value), xs[j]? = some x → vs[j]? = some v → TRel w S x v) : VRels w S (xs.map AV.ofTr) vs :=
  ⟨by simpa using hl, fun j y v hy hv => by
    rw [List.getElem?_map] at hy
    cases hx : xs[j]? with
    | none => rw [hx] at hy; cases hy
    | some x => rw [hx] at hy; simp at hy; subst hy; exact (h j x v hx hv).av⟩
theorem lv_elt (T : TT P) {t n sz m k off : Nat} {x : Operand} {ag : Bool} {f : Nat → List Tr} (ho : o.op = .load t x) (hx : evA s x = some (.elt sz m f k off)) (ht : f2 T.siz t = some (n, ag))
    (hl : off + n ≤ (f k).length) (h1 : ag = true ∨ n = 1) : LV P o s h none (ldA ag n (((f k).map AV.ofTr).drop off)) := fun w S a hs hh => by
  have hxe := hs.eval hx
  generalize hev : a.eval x = v at *
  obtain ⟨j, d, hj, hjn, hne, hu, hd⟩ := T.siz_at ht
  cases hxe with
  | @elt cp _ _ _ _ _ b off0 c hT hk =>
    cases hT with
    | @sl _ _ _ _ _ _ val hc hlen hcell ih =>
      obtain ⟨b', off', e, hb, hcells⟩ := hcell k hk
      simp at e
      obtain ⟨rfl, rfl⟩ := e
      have hszk := hlen k hk
      have hR : VRels w S ((f k).map AV.ofTr) ((List.range sz).map (val k)) := VRels.ofTr (by simp [hszk]) (fun j x v hx hv => by
        rw [List.getElem?_map] at hv
        have hj : j < sz := by rw [← hszk]; exact (List.getElem?_eq_some_iff.1 hx).1
        rw [List.getElem?_range hj] at hv
        simp at hv; subst hv; exact ih k j x hk hx)
      refine ⟨if ag then .agg ((((List.range sz).map (val k)).drop off).take n).toArray else ((((List.range sz).map (val k)).drop off).take n).getD 0 undef, b, fun w' hw' => ?_, ldA_rel (hR.drop off) (by simp; omega) hne, .inl hb⟩
      have := run_loadVar' T ht (w := w') (b := b) (o := off0 + k * sz + off) (vs := (((List.range sz).map (val k)).drop off).take n) (by simp; omega) (fun e => h1.resolve_left (by rw [e]; simp)) (fun j v hjv => by
        rw [List.getElem?_take] at hjv
        split at hjv
        · rw [List.getElem?_drop, List.getElem?_map] at hjv
          have hjs : off + j < sz := by omega
          rw [List.getElem?_range hjs] at hjv
          simp at hjv
          subst hjv
          rw [Nat.add_assoc, cell_of_block hw']
          exact hcells (off + j) hjs
        · cases hjv)
      simp [execOp, ho, hev, Instr.loadAt, Instr.sureAddr, this]
/-- one cell of an element of an owned slice -/
theorem flat_get {rows : List (List AV)} {sz : Nat} (h : ∀ r ∈ rows, r.length = sz) (k j : Nat) (hk : k < rows.length) (hj : j < sz) : rows.flatten[k * sz + j]? = (rows.getD k [])[j]? := by
  induction rows generalizing k with
  | nil => simp at hk
  | cons c css ih =>
    have h0 := h c (by simp)
    cases k with
    | zero => simp [List.getElem?_append, h0, hj]
    | succ k =>
      have h1 := ih (fun r hr => h r (by simp [hr])) k (by simpa using hk)
      have e : (k + 1) * sz + j = sz + (k * sz + j) := by rw [Nat.add_mul]; omega
      rw [e, List.flatten_cons, List.getElem?_append_right (by omega), h0, Nat.add_sub_cancel_left, h1]
      simp
theorem lv_rp (T : TT P) {t sz k off g n c E : Nat} {x : Operand} {rows : List (List AV)} {y : AV} (ho : o.op = .load t x) (hx : evA s x = some (.rp (.slice (some ⟨g, 0, none⟩) n c) sz k off)) (ht : f2 T.siz t = some (1, false))
    (hm : Mem1 (.rw (.slice (some ⟨g, 0, none⟩) n c) E sz rows) h) (hk : k < rows.length) (hoff : off < sz) (hy : (rows.getD k [])[off]? = some y) : LV P o s h (some (.rw (.slice (some ⟨g, 0, none⟩) n c) E sz rows)) y := fun w S a hs hh => by
  obtain ⟨xs, hown, hr, hl⟩ := hh.ent _ hm.mem
  have hxe := hs.eval hx
  generalize hev : a.eval x = v at *
  cases hxe with
  | rp =>
    obtain ⟨v, hv, hvr⟩ := hr.get ((flat_get hl k off hk hoff).trans hy)
    have hcell := @World.ownsRow.cells _ _ _ _ _ _ _ hown g rfl _ _ hv
    have e : ((⟨g, 0, none⟩ : Addr).add (k * sz + off)) = ⟨g, k * sz + off, none⟩ := by rw [Addr.add_lit]; simp
    rw [e] at hcell
    refine ⟨v, g, fun w' hw' => ?_, hvr, .inr ⟨_, rfl, hm.mem, rfl⟩⟩
    have := run_loadVar' T ht (w := w') (b := g) (o := k * sz + off) (vs := [v]) rfl (fun _ => rfl) (fun j u hj => by
      cases j with
      | zero => simp at hj; subst hj; rw [Nat.add_zero, cell_of_block hw']; exact hcell
      | succ j => simp at hj)
    simp [execOp, ho, hev, Instr.loadAt, Instr.sureAddr, this]
end
end Go.Tl
