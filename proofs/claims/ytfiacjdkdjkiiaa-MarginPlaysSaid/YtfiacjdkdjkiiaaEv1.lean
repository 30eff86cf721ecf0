/- The machine for closed calls: operations that only compute. -/
import Derived.Test.YtfiacjdkdjkiiaaEv0
namespace Go.Ev
open Go Go.RowKit Go.Tl
set_option linter.unusedVariables false
set_option linter.unusedSimpArgs false
noncomputable section
theorem kOk_sc : ∀ {ks : List Bool} {vs : List Value}, kOk ks vs = true → vs.all scB = true
  | [], [], _ => rfl
  | true :: ks, .int .i64 _ :: vs, h => by simp only [List.all_cons, scB, Bool.true_and]; exact kOk_sc (ks := ks) h
  | false :: ks, .bool _ :: vs, h => by simp only [List.all_cons, scB, Bool.true_and]; exact kOk_sc (ks := ks) h
  | [], _ :: _, h => by simp [kOk] at h
  | true :: _, [], h => by simp [kOk] at h
  | false :: _, [], h => by simp [kOk] at h
theorem kOk_cell : ∀ {ks : List Bool} {vs : List Value}, kOk ks vs = true → ∀ v ∈ vs, (∃ n, v = .int .i64 n) ∨ ∃ b, v = .bool b
  | [], [], _ => fun v hv => by cases hv
  | true :: ks, .int .i64 n :: vs, h => fun v hv => by
    rcases List.mem_cons.1 hv with rfl | hv
    · exact .inl ⟨n, rfl⟩
    · exact kOk_cell (ks := ks) h v hv
  | false :: ks, .bool b :: vs, h => fun v hv => by
    rcases List.mem_cons.1 hv with rfl | hv
    · exact .inr ⟨b, rfl⟩
    · exact kOk_cell (ks := ks) h v hv
  | [], _ :: _, h => by simp [kOk] at h
  | true :: _, [], h => by simp [kOk] at h
  | false :: _, [], h => by simp [kOk] at h
theorem scqs_iff : ∀ {ks : List Bool} {xs ys : List Value}, kOk ks xs = true → kOk ks ys = true → (scqs xs ys = true ↔ xs = ys)
  | [], [], [], _, _ => by simp [scqs]
  | true :: ks, .int .i64 a :: xs, .int .i64 b :: ys, h, h' => by
    have := scqs_iff (ks := ks) (xs := xs) (ys := ys) h h'
    simp [scqs, scq, this]
  | false :: ks, .bool a :: xs, .bool b :: ys, h, h' => by
    have := scqs_iff (ks := ks) (xs := xs) (ys := ys) h h'
    simp [scqs, scq, this]
  | [], _ :: _, _, h, _ => by simp [kOk] at h
  | true :: _, [], _, h, _ => by simp [kOk] at h
  | false :: _, [], _, h, _ => by simp [kOk] at h
  | [], [], _ :: _, _, h => by simp [kOk] at h
  | true :: _, .int .i64 _ :: _, [], _, h => by simp [kOk] at h
  | false :: _, .bool _ :: _, [], _, h => by simp [kOk] at h
structure TD where
  siz : Tre (Nat × Bool)
  elm : Tre (Nat × Nat × Nat)
  arr : Tre (Nat × Nat × Nat)
  fld : Tre (List (Nat × Nat × Bool))
  knd : Tre IntKind
  eqs : Tre (List Bool)
  zer : List (Nat × Value)
  bls : Tre Unit
  deriving Inhabited
def blsB (P : Program) (t : Nat) (_ : Unit) : Bool :=
  match P.underlying t with
  | some .bool => true
  | _ => false
def fldsB (P : Program) (t : Nat) (l : List (Nat × Nat × Bool)) : Bool :=
  match P.underlying t with
  | some (.struct fs) => (fs.toList.map fun f => (f.offset, (P.info? f.type).map (·.size), (P.underlying f.type).map aggB)) == l.map fun x => (x.1, some x.2.1, some x.2.2)
  | _ => false
def kndB (P : Program) (t : Nat) (k : IntKind) : Bool :=
  match P.underlying t with
  | some (.int k') => k' == k
  | _ => false
structure TX (P : Program) (D : TD) : Prop where
  sizOk : D.siz.all (fun t x => sizB P (t, x)) = true
  elmOk : D.elm.all (fun t x => elmB P (t, x)) = true
  arrOk : D.arr.all (fun t x => arrB P (t, x)) = true
  fldOk : D.fld.all (fldsB P) = true
  kndOk : D.knd.all (kndB P) = true
  eqOk : ∀ t ks, D.eqs.get t = some ks → P.eqGuardType P.depth t = false ∧ ∀ as bs w, kOk ks as = true → kOk ks bs = true → (Op.equal t (.agg as.toArray) (.agg bs.toArray)).run P w = .ok (scqs as bs) w
  zerOk : zOk P D.zer
  zerSc : D.zer.all (fun p => (match p.2 with | .agg cs => cs.toList | v => [v]).all scB) = true
  mixed : P.follows .mixedOrders = true
  blOk : D.bls.all (blsB P) = true
section
variable {P : Program} {D : TD} (X : TX P D)
include X
theorem TX.siz_at {t n : Nat} {b : Bool} (h : D.siz.get t = some (n, b)) : ∃ j d, P.info? t = some j ∧ j.size = n ∧ n ≠ 0 ∧ P.underlying t = some d ∧ aggB d = b := by
  have hb := Tre.all_get _ _ X.sizOk _ _ h
  simp only [sizB, Bool.and_eq_true] at hb
  obtain ⟨h1, h2⟩ := hb
  split at h1
  · rename_i j hj
    split at h2
    · rename_i d hd
      simp only [Bool.and_eq_true, beq_iff_eq, bne_iff_ne] at h1 h2
      exact ⟨j, d, hj, h1.1, fun e => h1.2 (h1.1.trans e), hd, h2⟩
    · cases h2
  · cases h1
theorem TX.elm_at {t e n b : Nat} (h : D.elm.get t = some (e, n, b)) : ∃ j, P.underlying t = some (.slice e) ∧ P.info? e = some j ∧ j.size = n ∧ j.bytes = b ∧ n ≠ 0 := by
  have hb := Tre.all_get _ _ X.elmOk _ _ h
  simp only [elmB, Bool.and_eq_true] at hb
  obtain ⟨h1, h2⟩ := hb
  split at h1
  · rename_i u hu
    split at h2
    · rename_i j hj
      simp only [Bool.and_eq_true, beq_iff_eq, bne_iff_ne] at h1 h2
      subst h1
      exact ⟨j, hu, hj, h2.1.1, h2.1.2, fun e => h2.2 (h2.1.1.trans e)⟩
    · cases h2
  · cases h1
theorem TX.arr_at {t n e m : Nat} (h : D.arr.get t = some (n, e, m)) : ∃ j, P.underlying t = some (.array n e) ∧ P.info? e = some j ∧ j.size = m ∧ m ≠ 0 := by
  have hb := Tre.all_get _ _ X.arrOk _ _ h
  simp only [arrB, Bool.and_eq_true] at hb
  obtain ⟨h1, h2⟩ := hb
  split at h1
  · rename_i k u hu
    split at h2
    · rename_i j hj
      simp only [Bool.and_eq_true, beq_iff_eq, bne_iff_ne] at h1 h2
      obtain ⟨h3, h4⟩ := h1
      subst h3; subst h4
      exact ⟨j, hu, hj, h2.1, fun e => h2.2 (h2.1.trans e)⟩
    · cases h2
  · cases h1
theorem TX.fld_at {t : Nat} {l : List (Nat × Nat × Bool)} (h : D.fld.get t = some l) : ∃ fs, P.underlying t = some (.struct fs) ∧ (fs.toList.map fun f => (f.offset, (P.info? f.type).map (·.size), (P.underlying f.type).map aggB)) = l.map fun x => (x.1, some x.2.1, some x.2.2) := by
  have hb := Tre.all_get _ _ X.fldOk _ _ h
  simp only [fldsB] at hb
  split at hb
  · rename_i fs hu
    exact ⟨fs, hu, by simpa using hb⟩
  · cases hb
theorem TX.fld1 {t i off n : Nat} {ag : Bool} {l : List (Nat × Nat × Bool)} (h : D.fld.get t = some l) (hi : l[i]? = some (off, n, ag)) : ∃ fs f j d, P.underlying t = some (.struct fs) ∧ fs[i]? = some f ∧ f.offset = off ∧ P.info? f.type = some j ∧ j.size = n ∧ P.underlying f.type = some d ∧ aggB d = ag := by
  obtain ⟨fs, hu, e⟩ := X.fld_at h
  have e1 := congrArg (fun l => l[i]?) e
  simp only [List.getElem?_map, hi, Option.map_some] at e1
  cases hf : fs.toList[i]? with
  | none => rw [hf] at e1; cases e1
  | some f =>
    rw [hf] at e1
    simp only [Option.map_some, Option.some.injEq, Prod.mk.injEq] at e1
    obtain ⟨h1, h2, h3⟩ := e1
    obtain ⟨j, hj, hj'⟩ := Option.map_eq_some_iff.1 h2
    obtain ⟨d, hd, hd'⟩ := Option.map_eq_some_iff.1 h3
    exact ⟨fs, f, j, d, hu, by simpa using hf, h1, hj, hj', hd, hd'⟩
theorem TX.knd_at {t : Nat} {k : IntKind} (h : D.knd.get t = some k) : P.underlying t = some (.int k) := by
  have hb := Tre.all_get _ _ X.kndOk _ _ h
  simp only [kndB] at hb
  split at hb
  · rename_i k' hu
    rw [hu, beq_iff_eq.1 hb]
  · cases hb
theorem TX.bl_at {t : Nat} {u : Unit} (h : D.bls.get t = some u) : P.underlying t = some .bool := by
  have hb := Tre.all_get _ _ X.blOk _ _ h
  simp only [blsB] at hb
  split at hb
  · rename_i hu
    exact hu
  · cases hb
theorem TX.zer_at {t : Nat} {z : Value} (h : f2 D.zer t = some z) : ∃ i, P.info? t = some i ∧ i.zero = some z := by
  obtain ⟨i, hi, hz⟩ := Option.map_eq_some_iff.1 (zOk_at X.zerOk h)
  exact ⟨i, hi, hz⟩
end
def lk (s : Tre Value) : Operand → Option Value
  | .tmp t => s.get t
  | .const v => cond (scB v) (some v) none
  | .func f => some (.func (.func f) #[] #[])
  | .global _ => none
def lks (s : Tre Value) : List Operand → Option (List Value)
  | [] => some []
  | x :: xs => match lk s x with
    | none => none
    | some v => match lks s xs with
      | none => none
      | some vs => some (v :: vs)
section
variable {ρ : Nat → Rb} {D : Nat → Prop} {s : Tre Value} {a : Act}
theorem lk_eval (h : SR ρ D s a.tmps) {x : Operand} {v : Value} (hx : lk s x = some v) : VR ρ D v (a.eval x) := by
  cases x with
  | tmp t =>
    obtain ⟨u, hu, hr⟩ := h t v hx
    simp [Act.eval, hu]; exact hr
  | const c =>
    simp only [lk] at hx
    cases hc : scB c with
    | true => rw [hc] at hx; simp at hx; subst hx; exact .sc hc
    | false => rw [hc] at hx; simp at hx
  | func f => simp [lk] at hx; subst hx; exact .fn rfl (fun j x y h => by simp at h) rfl (fun j x y h => by simp at h)
  | global g => simp [lk] at hx
theorem lks_eval (h : SR ρ D s a.tmps) : ∀ {xs : List Operand} {vs : List Value}, lks s xs = some vs → VRs ρ D vs (xs.map a.eval)
  | [], vs, hx => by simp [lks] at hx; subst hx; exact .nil
  | x :: xs, vs, hx => by
    simp only [lks] at hx
    split at hx
    · cases hx
    · rename_i v hv
      split at hx
      · cases hx
      · rename_i us hus
        simp at hx
        subst hx
        exact .cons (lk_eval h hv) (lks_eval h hus)
end
def inK : IntKind → Int → Bool
  | .i64, .ofNat n => Nat.blt n 4611686018427387904
  | .i64, .negSucc n => Nat.blt n 4611686018427387904
  | .u64, .ofNat n => Nat.blt n 4611686018427387904
  | _, _ => false
theorem blt_iff' {a b : Nat} (h : Nat.blt a b = true) : a < b := Nat.le_of_ble_eq_true h
theorem inK_wrap {k : IntKind} {n : Int} (h : inK k n = true) : k.wrap n = n := by
  cases k <;> cases n <;> simp only [inK, reduceCtorEq] at h
  · rename_i n
    have := blt_iff' h
    rw [IntKind.wrap_i64]
    simp only [Int.ofNat_eq_natCast]
    omega
  · rename_i n
    have := blt_iff' h
    rw [IntKind.wrap_i64]
    simp only [Int.negSucc_eq]
    omega
  · rename_i n
    have := blt_iff' h
    unfold IntKind.wrap
    simp only [IntKind.bits, IntKind.signed, Bool.false_and, Bool.false_eq_true, if_false, Int.ofNat_eq_natCast]
    omega
def retI (k : IntKind) (n : Int) : Option Value := cond (inK k n) (some (.int k n)) none
theorem retI_some {k : IntKind} {n : Int} {v : Value} (h : retI k n = some v) : v = .int k (k.wrap n) := by
  unfold retI at h
  cases hb : inK k n with
  | true => rw [hb] at h; simp at h; rw [inK_wrap hb]; exact h.symm
  | false => rw [hb] at h; simp at h
def ltI (a b : Int) : Bool := decide (a < b)
def evInt (op : BinOp) (k : IntKind) (a b : Int) : Option Value :=
  match op with
  | .add => retI k (a + b)
  | .sub => retI k (a - b)
  | .mul => retI k (a * b)
  | .quo => cond (decide (b = 0)) none (retI k (a.tdiv b))
  | .rem => cond (decide (b = 0)) none (some (.int k (a.tmod b)))
  | .lss => some (.bool (decide (a < b)))
  | .leq => some (.bool (decide (a ≤ b)))
  | .gtr => some (.bool (decide (b < a)))
  | .geq => some (.bool (decide (b ≤ a)))
  | .eql => some (.bool (decide (a = b)))
  | .neq => some (.bool (!decide (a = b)))
  | _ => none
def nilB : Value → Option Bool
  | .pointer none => some true
  | .pointer (some _) => some false
  | .slice none _ _ => some true
  | .slice (some _) _ _ => some false
  | .map none => some true
  | .map (some _) => some false
  | .nilFunc => some true
  | .func _ _ _ => some false
  | _ => none
def ikq : IntKind → IntKind → Bool
  | .i64, .i64 => true
  | .u64, .u64 => true
  | .i32, .i32 => true
  | .u8, .u8 => true
  | _, _ => false
theorem ikq_eq {a b : IntKind} (h : ikq a b = true) : a = b := by cases a <;> cases b <;> first | rfl | simp [ikq] at h
def eqAgg (T : TD) (t : TypeId) (xs ys : List Value) : Option Bool :=
  match T.eqs.get t with
  | some ks => cond (kOk ks xs && kOk ks ys) (some (scqs xs ys)) none
  | none => none
def evBin (T : TD) (op : BinOp) (t : TypeId) (u v : Value) : Option Value :=
  match u, v with
  | .int k a, .int k' b => cond (ikq k k') (evInt op k a b) none
  | .agg xs, .agg ys => match op with
    | .eql => (eqAgg T t xs.toList ys.toList).map .bool
    | .neq => (eqAgg T t xs.toList ys.toList).map fun b => .bool (!b)
    | _ => none
  | .slice a _ _, .slice none 0 0 => match T.elm.get t with
    | none => none
    | some _ => match op with
      | .eql => some (.bool a.isNone)
      | .neq => some (.bool (!a.isNone))
      | _ => none
  | .bool a, .bool b => match T.bls.get t with
    | none => none
    | some _ => match op with
      | .eql => some (.bool (cond a b (!b)))
      | .neq => some (.bool (cond a (!b) b))
      | _ => none
  | _, _ => none
theorem evInt_run {P : Program} {op : BinOp} {k : IntKind} {a b : Int} {r : Value} (h : evInt op k a b = some r) (t : TypeId) (x y : Operand) (w : World) :
    (do eqGuard op t x y (.int k a) (.int k b); binOp op t (.int k a) (.int k b) : Sem Value).run P w = .ok r w := by
  cases op <;> simp only [evInt, reduceCtorEq] at h
  case add => rw [retI_some h]; simp [go_sem]
  case sub => rw [retI_some h]; simp [go_sem]
  case mul => rw [retI_some h]; simp [go_sem]
  case quo =>
    by_cases hb : b = 0
    · simp [hb] at h
    · simp only [hb, decide_false, cond_false] at h
      rw [retI_some h]; simp [go_sem, hb]
  case rem =>
    by_cases hb : b = 0
    · simp [hb] at h
    · simp only [hb, decide_false, cond_false, Option.some.injEq] at h
      subst h; simp [go_sem, hb]
  case lss => cases h; simp [go_sem]
  case leq => cases h; simp [go_sem]
  case gtr => cases h; simp [go_sem]
  case geq => cases h; simp [go_sem]
  case eql => cases h; simp only [go_sem]; simp; exact beq_dec _ _
  case neq => cases h; simp only [go_sem]; simp [bne, beq_dec]
theorem eqGuard_agg {P : Program} {op : BinOp} {t : TypeId} {x y : Operand} {xs ys : Array Value} {w : World} (h : P.eqGuardType P.depth t = false) (hop : op = .eql ∨ op = .neq) : (eqGuard op t x y (.agg xs) (.agg ys)).run P w = .ok () w := by
  rcases hop with rfl | rfl <;> simp [eqGuard, h]
theorem evBin_run {P : Program} {T : TD} (X : TX P T) {ρ : Nat → Rb} {Dm : Nat → Prop} {op : BinOp} {t : TypeId} {u v r tu tv : Value} (h : evBin T op t u v = some r) (hu : VR ρ Dm u tu) (hv : VR ρ Dm v tv) (x y : Operand) :
    scB r = true ∧ ∀ w, (do eqGuard op t x y tu tv; binOp op t tu tv : Sem Value).run P w = .ok r w := by
  unfold evBin at h
  split at h
  · rename_i k a k' b
    have e1 := hu.scal rfl
    have e2 := hv.scal rfl
    subst e1; subst e2
    cases hk : ikq k k' with
    | false => rw [hk] at h; simp at h
    | true =>
      rw [hk] at h
      simp only [cond_true] at h
      have := ikq_eq hk
      subst this
      refine ⟨?_, fun w => evInt_run h t x y w⟩
      cases op <;> simp only [evInt, reduceCtorEq] at h <;> first | (rw [retI_some h]; rfl) | (cases h; rfl) | (revert h; cases hb : decide (b = 0) <;> intro h <;> simp at h <;> first | (rw [retI_some h]; rfl) | (subst h; rfl))
  · rename_i xs ys
    obtain ⟨xs', rfl, hx⟩ := hu.agI
    obtain ⟨ys', rfl, hy⟩ := hv.agI
    have main : ∀ b, eqAgg T t xs.toList ys.toList = some b → P.eqGuardType P.depth t = false ∧ ∀ w, (Op.equal t (.agg xs') (.agg ys')).run P w = .ok b w := fun b hb => by
      unfold eqAgg at hb
      split at hb
      · rename_i ks hks
        obtain ⟨g1, g2⟩ := X.eqOk t ks hks
        cases hc : (kOk ks xs.toList && kOk ks ys.toList) with
        | false => rw [hc] at hb; simp at hb
        | true =>
          rw [hc] at hb
          simp only [Bool.and_eq_true] at hc
          simp only [cond_true, Option.some.injEq] at hb
          have e1 := hx.scals (kOk_sc hc.1)
          have e2 := hy.scals (kOk_sc hc.2)
          refine ⟨g1, fun w => ?_⟩
          have := g2 xs.toList ys.toList w hc.1 hc.2
          rw [← e1, ← e2] at this
          simp only [Array.toArray_toList] at this
          rw [this, ← hb, e1, e2]
      · cases hb
    split at h
    · obtain ⟨b, hb, rfl⟩ := Option.map_eq_some_iff.1 h
      obtain ⟨g1, g2⟩ := main b hb
      refine ⟨rfl, fun w => ?_⟩
      rw [Sem.run_bind, eqGuard_agg g1 (.inl rfl)]
      simp [binOp, g2]
    · obtain ⟨b, hb, rfl⟩ := Option.map_eq_some_iff.1 h
      obtain ⟨g1, g2⟩ := main b hb
      refine ⟨rfl, fun w => ?_⟩
      rw [Sem.run_bind, eqGuard_agg g1 (.inr rfl)]
      simp [binOp, g2]
    · cases h
  · rename_i ad n c
    have e2 := hv.scal rfl
    subst e2
    split at h
    · cases h
    rename_i p ht
    obtain ⟨e, sz, bt⟩ := p
    obtain ⟨j, hund, _⟩ := X.elm_at ht
    have main : ∀ (a' : Option Addr) (n' c' d : Nat) w, (Op.equalIn (d + 1) t (.slice a' n' c') (.slice none 0 0)).run P w = .ok a'.isNone w := fun a' n' c' d w => by
      cases a' <;> simp [Op.equalIn, run_underlying hund]
    have hs : ∃ a' n' c', tu = .slice a' n' c' ∧ a'.isNone = ad.isNone := by
      cases hu with
      | sc hc => exact ⟨_, _, _, rfl, rfl⟩
      | sl => exact ⟨_, _, _, rfl, rfl⟩
      | s0 => exact ⟨_, _, _, rfl, rfl⟩
    obtain ⟨a', n', c', rfl, hn⟩ := hs
    have hg : ∀ op w, (eqGuard op t x y (.slice a' n' c') (.slice none 0 0)).run P w = .ok () w := fun op w => by
      cases op <;> simp [eqGuard]
    split at h
    · cases h
      exact ⟨rfl, fun w => by rw [Sem.run_bind, hg]; simp only [Result.andThen_ok, binOp]; simp [Op.equal, Op.maxDepth, main a' n' c' 9999, hn]⟩
    · cases h
      exact ⟨rfl, fun w => by rw [Sem.run_bind, hg]; simp only [Result.andThen_ok, binOp]; simp [Op.equal, Op.maxDepth, main a' n' c' 9999, hn]⟩
    · cases h
  · rename_i a b
    have e1 := hu.scal rfl
    have e2 := hv.scal rfl
    subst e1; subst e2
    split at h
    · cases h
    rename_i u ht
    have hund := X.bl_at ht
    have main : ∀ (d : Nat) w, (Op.equalIn (d + 1) t (.bool a) (.bool b)).run P w = .ok (a == b) w := fun d w => by
      simp [Op.equalIn, run_underlying hund]
    have hq : ∀ w, (Op.equal t (.bool a) (.bool b)).run P w = .ok (a == b) w := fun w => by
      simp [Op.equal, Op.maxDepth, main 9999]
    have hg : ∀ op w, (eqGuard op t x y (.bool a) (.bool b)).run P w = .ok () w := fun op w => by
      cases op <;> simp [eqGuard]
    split at h
    · cases h
      refine ⟨rfl, fun w => ?_⟩
      rw [Sem.run_bind, hg]
      simp only [Result.andThen_ok, binOp, Sem.run_bind, hq, Sem.run_pure]
      cases a <;> cases b <;> rfl
    · cases h
      refine ⟨rfl, fun w => ?_⟩
      rw [Sem.run_bind, hg]
      simp only [Result.andThen_ok, binOp, Sem.run_bind, hq, Sem.run_pure]
      cases a <;> cases b <;> rfl
    · cases h
  · cases h
def spL (cs : List Value) (off : Nat) (ys : List Value) : List Value := cs.take off ++ ys ++ cs.drop (off + ys.length)
def fillL (place : Nat → Option (Nat × Nat)) : List Value → List (Nat × Value) → Option (List Value)
  | cs, [] => some cs
  | cs, (i, v) :: r => match place i with
    | none => none
    | some (off, sz) => cond (Nat.beq (cellsL v).length sz && Nat.ble (off + sz) cs.length) (fillL place (spL cs off (cellsL v)) r) none
def lkp (s : Tre Value) : List (Nat × Operand) → Option (List (Nat × Value))
  | [] => some []
  | (i, x) :: r => match lk s x with
    | none => none
    | some v => match lkp s r with
      | none => none
      | some vs => some ((i, v) :: vs)
section
variable {ρ : Nat → Rb} {Dm : Nat → Prop}
def PRs (ρ : Nat → Rb) (Dm : Nat → Prop) (xs ys : List (Nat × Value)) : Prop := xs.map (·.1) = ys.map (·.1) ∧ VRs ρ Dm (xs.map (·.2)) (ys.map (·.2))
theorem lkp_eval {s : Tre Value} {a : Act} (h : SR ρ Dm s a.tmps) : ∀ {xs : List (Nat × Operand)} {vs : List (Nat × Value)}, lkp s xs = some vs → PRs ρ Dm vs (xs.map fun p => (p.1, a.eval p.2))
  | [], vs, hx => by simp [lkp] at hx; subst hx; exact ⟨rfl, .nil⟩
  | (i, x) :: xs, vs, hx => by
    simp only [lkp] at hx
    split at hx
    · cases hx
    · rename_i v hv
      split at hx
      · cases hx
      · rename_i us hus
        simp at hx
        subst hx
        have ih := lkp_eval h hus
        exact ⟨by simpa using ih.1, .cons (lk_eval h hv) ih.2⟩
theorem fill_sound {place : Nat → Option (Nat × Nat)} : ∀ (ps : List (Nat × Value)) (cs cs' : List Value) (cells : Array Value) (tps : List (Nat × Value)), fillL place cs ps = some cs' → VRs ρ Dm cs cells.toList → PRs ρ Dm ps tps →
    ∃ cells', Instr.fill place cells tps = some cells' ∧ VRs ρ Dm cs' cells'.toList
  | [], cs, cs', cells, tps, h, hc, hp => by
    have : tps = [] := by have := hp.1; cases tps with | nil => rfl | cons a b => simp at this
    subst this
    simp [fillL] at h
    subst h
    exact ⟨cells, rfl, hc⟩
  | (i, v) :: ps, cs, cs', cells, tps, h, hc, hp => by
    cases tps with
    | nil => have := hp.1; simp at this
    | cons tp tps =>
      obtain ⟨i', tv⟩ := tp
      have h1 := hp.1
      simp only [List.map_cons, List.cons.injEq] at h1
      obtain ⟨rfl, h1⟩ := h1
      have hv : VR ρ Dm v tv := hp.2.2 0 v tv rfl rfl
      have hp' : PRs ρ Dm ps tps := ⟨h1, by have := hp.2.1; simpa using this, fun j x y hx hy => hp.2.2 (j + 1) x y (by simpa using hx) (by simpa using hy)⟩
      simp only [fillL] at h
      split at h
      · cases h
      · rename_i off sz hpl
        cases hb : (Nat.beq (cellsL v).length sz && Nat.ble (off + sz) cs.length) with
        | false => rw [hb] at h; simp at h
        | true =>
          rw [hb] at h
          simp only [cond_true] at h
          simp only [Bool.and_eq_true] at hb
          have hn := Nat.eq_of_beq_eq_true hb.1
          have hle := Nat.le_of_ble_eq_true hb.2
          have hcl := hv.cells
          have hcsl := hc.1
          have hvs : tv.cells.size = sz := by rw [← Array.length_toList, cells_toList, ← hcl.1, hn]
          have hfit : off + tv.cells.size ≤ cells.size := by rw [hvs]; simp at hcsl; omega
          have hf := fold_set off tv.cells.toList 0 cells (by simpa using hfit)
          have e0 : (Array.foldl (fun (cs : Array Value) (p : Value × Nat) => cs.setIfInBounds (off + p.2) p.1) cells tv.cells.zipIdx) = (tv.cells.toList.zipIdx 0).foldl (fun (cs : Array Value) (p : Value × Nat) => cs.setIfInBounds (off + p.2) p.1) cells := by
            rw [← Array.foldl_toList, Array.toList_zipIdx]
          have hnew : VRs ρ Dm (spL cs off (cellsL v)) ((tv.cells.toList.zipIdx 0).foldl (fun (cs : Array Value) (p : Value × Nat) => cs.setIfInBounds (off + p.2) p.1) cells).toList := by
            rw [hf]
            simp only [spL, Nat.add_zero]
            rw [cells_toList, hcl.1]
            exact ((hc.take off).append hcl).append (hc.drop _)
          obtain ⟨cells', h3, h4⟩ := fill_sound ps _ cs' _ tps h hnew hp'
          refine ⟨cells', ?_, h4⟩
          simp only [Instr.fill, hpl]
          rw [e0]
          simp only [Bool.or_eq_true, decide_eq_true_eq]
          rw [if_neg (by simp; omega)]
          exact h3
end
def plF (l : List (Nat × Nat × Bool)) (i : Nat) : Option (Nat × Nat) := (l[i]?).map fun x => (x.1, x.2.1)
def evBuild (T : TD) (s : Tre Value) (t : TypeId) (parts : List (Nat × Operand)) : Option Value :=
  match f2 T.zer t with
  | none => none
  | some z => match lkp s parts with
    | none => none
    | some ps => match T.fld.get t with
      | some l => (fillL (plF l) (cellsL z) ps).map fun cs => .agg cs.toArray
      | none => match T.arr.get t with
        | some (_, _, m) => (fillL (fun i => some (i * m, m)) (cellsL z) ps).map fun cs => .agg cs.toArray
        | none => none
theorem TX.zer_cells {P : Program} {T : TD} (X : TX P T) {t : TypeId} {z : Value} (h : f2 T.zer t = some z) : (cellsL z).all scB = true := by
  have := List.all_eq_true.1 X.zerSc _ (f2_mem h)
  cases z <;> exact this
theorem run_places' {P : Program} {w : World} : ∀ (fs : List Field) (l : List (Nat × Nat × Bool)), (fs.map fun f => (f.offset, (P.info? f.type).map (·.size), (P.underlying f.type).map aggB)) = l.map (fun x => (x.1, some x.2.1, some x.2.2)) →
    (fs.mapM fun f => (do pure (f.offset, ← sizeOf f.type) : Sem (Nat × Nat))).run P w = .ok (l.map fun x => (x.1, x.2.1)) w
  | [], [], _ => by simp
  | [], p :: l, h => by simp at h
  | f :: fs, [], h => by simp at h
  | f :: fs, p :: l, h => by
    simp only [List.map_cons, List.cons.injEq, Prod.mk.injEq] at h
    obtain ⟨⟨h1, h2, _⟩, h3⟩ := h
    obtain ⟨j, hj, hjs⟩ := Option.map_eq_some_iff.1 h2
    have ih := run_places' (w := w) fs l h3
    rw [List.mapM_cons]
    simp only [Sem.run_bind, run_sizeOf' hj, Result.andThen_ok, Sem.run_pure] at ih ⊢
    rw [ih]
    simp [h1, hjs]
section
variable {P : Program} {T : TD} (X : TX P T) {ρ : Nat → Rb} {Dm : Nat → Prop} {s : Tre Value} {a : Act} {o : Oper}
include X
theorem evBuild_run {t : TypeId} {parts : Array (Nat × Operand)} {v : Value} (h : evBuild T s t parts.toList = some v) (hs : SR ρ Dm s a.tmps) : ∃ tv, VR ρ Dm v tv ∧ ∀ w, (Instr.build t (parts.map fun (i, x) => (i, a.eval x))).run P w = .ok tv w := by
  unfold evBuild at h
  split at h
  · cases h
  rename_i z hz
  split at h
  · cases h
  rename_i ps hps
  obtain ⟨i, hi, hiz⟩ := X.zer_at hz
  have hzc : VRs ρ Dm (cellsL z) z.cells.toList := by rw [cells_toList]; exact .sc (X.zer_cells hz)
  have hp := lkp_eval hs hps
  have hmap' : (Array.map (fun x => match x with | (i, x) => (i, a.eval x)) parts) = (parts.map fun p => (p.1, a.eval p.2)) := rfl
  have hmap : (parts.map fun p => (p.1, a.eval p.2)).toList = parts.toList.map fun p => (p.1, a.eval p.2) := by simp
  split at h
  · rename_i l hl
    obtain ⟨cs, hcs, rfl⟩ := Option.map_eq_some_iff.1 h
    obtain ⟨fs, hu, he⟩ := X.fld_at hl
    have hpl : plF l = ((l.map fun x => (x.1, x.2.1)).toArray[·]?) := by funext j; simp [plF]
    obtain ⟨cells', h1, h2⟩ := fill_sound (ρ := ρ) (Dm := Dm) _ _ _ z.cells _ hcs hzc hp
    rw [hpl] at h1
    refine ⟨.agg cells', ?_, fun w => ?_⟩
    · have := VR.agL h2
      simpa using this
    have hm : (fs.mapM fun f => (do pure (f.offset, ← sizeOf f.type) : Sem (Nat × Nat))).run P w = .ok (l.map fun x => (x.1, x.2.1)).toArray w := by
      have e : fs = fs.toList.toArray := by simp
      rw [e, List.mapM_toArray, Sem.run_map]
      rw [run_places' fs.toList l he]
      rfl
    simp only [hmap', Instr.build, Sem.run_bind, zeroValue, typeInfo, run_program, hi, hiz, Result.andThen_ok, Sem.run_pure, run_underlying hu, hm, hmap, h1]
  · split at h
    · rename_i n e m ha
      obtain ⟨cs, hcs, rfl⟩ := Option.map_eq_some_iff.1 h
      obtain ⟨j, hu, hj, hjs, _⟩ := X.arr_at ha
      obtain ⟨cells', h1, h2⟩ := fill_sound (ρ := ρ) (Dm := Dm) _ _ _ z.cells _ hcs hzc hp
      refine ⟨.agg cells', ?_, fun w => ?_⟩
      · have := VR.agL h2
        simpa using this
      simp only [hmap', Instr.build, Sem.run_bind, zeroValue, typeInfo, run_program, hi, hiz, Result.andThen_ok, Sem.run_pure, run_underlying hu, run_sizeOf' hj, hjs, hmap, h1]
    · cases h
end
def partL (ag : Bool) (n : Nat) (cs : List Value) (off : Nat) : Option Value :=
  cond ag (cond (Nat.ble (off + n) cs.length) (some (.agg ((cs.drop off).take n).toArray)) none) (cs[off]?)
theorem part_run {P : Program} {ρ : Nat → Rb} {Dm : Nat → Prop} {t : TypeId} {j : TypeInfo} {d : TypeDesc} {ag : Bool} {n off : Nat} {cs : List Value} {tcs : Array Value} {v : Value} (hj : P.info? t = some j) (hn : j.size = n) (hd : P.underlying t = some d) (ha : aggB d = ag) (hc : VRs ρ Dm cs tcs.toList) (h : partL ag n cs off = some v) :
    ∃ tv, VR ρ Dm v tv ∧ ∀ w, (part t tcs off).run P w = .ok tv w := by
  unfold partL at h
  cases ag with
  | true =>
    simp only [cond_true] at h
    cases hb : Nat.ble (off + n) cs.length with
    | false => rw [hb] at h; simp at h
    | true =>
      rw [hb] at h
      simp only [cond_true, Option.some.injEq] at h
      subst h
      refine ⟨.agg (tcs.extract off (off + n)), ?_, fun w => by simp [part, run_isAgg' hd, ha, run_sizeOf' hj, hn]⟩
      have := VR.agL ((hc.drop off).take n)
      have e : tcs.extract off (off + n) = ((tcs.toList.drop off).take n).toArray := by
        apply Array.ext'
        simp [List.take_drop]
      rw [e]
      exact this
  | false =>
    simp only [cond_false] at h
    obtain ⟨tv, h1, h2⟩ := hc.get h
    refine ⟨tv, h2, fun w => ?_⟩
    have h1' : tcs[off]? = some tv := by simpa using h1
    simp [part, run_isAgg' hd, ha, h1']
def evIx (n : Nat) (i : Int) : Option Nat := match i with
  | .ofNat k => cond (Nat.blt k n) (some k) none
  | .negSucc _ => none
theorem evIx_spec {n k : Nat} {i : Int} (h : evIx n i = some k) : 0 ≤ i ∧ i < n ∧ i.toNat = k := by
  unfold evIx at h
  split at h
  · rename_i j
    cases hb : Nat.blt j n with
    | false => rw [hb] at h; simp at h
    | true =>
      rw [hb] at h
      simp at h
      subst h
      have := blt_iff' hb
      refine ⟨?_, ?_, ?_⟩ <;> simp <;> omega
  · cases h
def evBd (x : Option Operand) (s : Tre Value) (n d : Nat) : Option Nat := match x with
  | none => some d
  | some x => match lk s x with
    | some (.int _ i) => evIx (n + 1) i
    | _ => none
def evSlice (T : TD) (m : Tre MO) (s : Tre Value) (t : TypeId) (x : Operand) (lo hi mx : Option Operand) : Option Value :=
  match lk s x with
  | some (.slice (some ⟨i, o, none⟩) n 1) => match T.elm.get t with
    | none => none
    | some (_, sz, _) => match m.get i with
      | some (.cl _ sz' _ _) => cond (Nat.beq sz sz') (match mx with
        | none => match evBd hi s n n with
          | none => none
          | some h => match evBd lo s h 0 with
            | none => none
            | some l => cond (Nat.beq l 0 || Nat.blt l n) (some (.slice (some ⟨i, o + l * sz, none⟩) (h - l) 1)) none
        | some mx => match evBd (some mx) s n n with
          | some 0 => match evBd hi s 0 0 with
            | none => none
            | some _ => match evBd lo s 0 0 with
              | none => none
              | some _ => cond hi.isSome (some (.slice (some ⟨i, o, none⟩) 0 0)) none
          | _ => none) none
      | _ => none
  | some (.slice none 0 0) => match T.elm.get t with
    | none => none
    | some _ => match evBd mx s 0 0 with
      | none => none
      | some _ => match evBd hi s 0 0 with
        | none => none
        | some _ => match evBd lo s 0 0 with
          | none => none
          | some _ => cond (hi.isSome || mx.isNone) (some (.slice none 0 0)) none
  | some (.pointer (some ⟨i, 0, none⟩)) => match T.arr.get t with
    | some (n, _, 1) => match m.get i with
      | some (.cl _ 1 true cs) => cond (Nat.beq cs.length n && lo.isNone && hi.isNone && mx.isNone && Nat.blt 0 n) (some (.slice (some ⟨i, 0, none⟩) n 1)) none
      | _ => none
    | _ => none
  | _ => none
theorem evBd_some {ρ : Nat → Rb} {Dm : Nat → Prop} {s : Tre Value} {a : Act} (hs : SR ρ Dm s a.tmps) {x : Operand} {n d r : Nat} (h : evBd (some x) s n d = some r) : ∃ k i, a.eval x = .int k i ∧ 0 ≤ i ∧ i ≤ n ∧ i.toNat = r := by
  unfold evBd at h
  simp only at h
  split at h
  · rename_i k i hx
    obtain ⟨h1, h2, h3⟩ := evIx_spec h
    exact ⟨k, i, (lk_eval hs hx).scal rfl, h1, by omega, h3⟩
  · cases h
theorem bound_run {P : Program} {k : IntKind} {i : Int} {y : Nat} {c : BoundsCode} (h0 : 0 ≤ i) (h1 : i ≤ y) (w : World) : (Instr.sliceBound (.int k i) y c).run P w = .ok i.toNat w := by
  simp [Instr.sliceBound, asIntOf, h0, h1]
section
variable {P : Program} {T : TD} (X : TX P T) {ρ : Nat → Rb} {m : Tre MO} {s : Tre Value} {a : Act} {w0 : W0} {w1 : World}
theorem bounds_run {isS : Bool} {n c d0 : Nat} {lo hi : Option Operand} {h l : Nat} (hs : SR ρ (dom m) s a.tmps) (hn : n ≤ c) (hh : evBd hi s n n = some h) (hl : evBd lo s h 0 = some l) (w : World) :
    (Instr.sliceBounds isS n c (lo.map a.eval) (hi.map a.eval) none).run P w = .ok (l, h, c) w ∧ l ≤ h ∧ h ≤ n := by
  have hhn : h ≤ n := by
    cases hi with
    | none => simp [evBd] at hh; omega
    | some x => obtain ⟨k, i, _, h1, h2, h3⟩ := evBd_some hs hh; omega
  have hlh : l ≤ h := by
    cases lo with
    | none => simp [evBd] at hl; omega
    | some x => obtain ⟨k, i, _, h1, h2, h3⟩ := evBd_some hs hl; omega
  refine ⟨?_, hlh, hhn⟩
  have H : (match hi.map a.eval with | some v => Instr.sliceBound v c (if isS then .sliceAcap else .sliceAlen) | none => pure n : Sem Nat).run P w = .ok h w := by
    cases hi with
    | none => simp [evBd] at hh; subst hh; simp
    | some x =>
      obtain ⟨k, i, e, h1, h2, h3⟩ := evBd_some hs hh
      simp only [Option.map_some, e]
      rw [bound_run h1 (by omega), h3]
  have L : (match lo.map a.eval with | some v => Instr.sliceBound v h .sliceB | none => pure 0 : Sem Nat).run P w = .ok l w := by
    cases lo with
    | none => simp [evBd] at hl; subst hl; simp
    | some x =>
      obtain ⟨k, i, e, h1, h2, h3⟩ := evBd_some hs hl
      simp only [Option.map_some, e]
      rw [bound_run h1 (by omega), h3]
  cases hi with
  | none =>
    simp [evBd] at hh
    subst hh
    cases lo with
    | none => simp [evBd] at hl; subst hl; simp [Instr.sliceBounds]
    | some y =>
      simp only [Option.map_some] at L
      simp [Instr.sliceBounds, L]
  | some x =>
    simp only [Option.map_some] at H
    cases lo with
    | none => simp [evBd] at hl; subst hl; simp [Instr.sliceBounds, H]
    | some y =>
      simp only [Option.map_some] at L
      simp [Instr.sliceBounds, H, L]
theorem bounds_max0 {isS : Bool} {n c d e1 : Nat} {lo hi : Option Operand} {mx : Operand} {h l : Nat} (hs : SR ρ (dom m) s a.tmps) (hn : n ≤ c) (hm : evBd (some mx) s n d = some 0) (hh : evBd hi s 0 0 = some h) (hl : evBd lo s 0 0 = some l) (hi' : hi.isSome = true) (w : World) :
    (Instr.sliceBounds isS n c (lo.map a.eval) (hi.map a.eval) (some (a.eval mx))).run P w = .ok (0, 0, 0) w := by
  obtain ⟨k, i, e, h1, h2, h3⟩ := evBd_some hs hm
  have M : ∀ cd, (Instr.sliceBound (a.eval mx) c cd).run P w = .ok 0 w := fun cd => by rw [e, bound_run h1 (by omega), h3]
  cases hi with
  | none => simp at hi'
  | some x =>
    obtain ⟨k2, i2, e2, g1, g2, g3⟩ := evBd_some hs hh
    have i20 : i2 = 0 := by omega
    subst i20
    have H : ∀ cd, (Instr.sliceBound (a.eval x) 0 cd).run P w = .ok 0 w := fun cd => by rw [e2, bound_run (by omega) (by omega)]; rfl
    cases lo with
    | none => simp [Instr.sliceBounds, M, H]
    | some y =>
      obtain ⟨k3, i3, e3, g1, g2, g3⟩ := evBd_some hs hl
      have i30 : i3 = 0 := by omega
      subst i30
      have L : ∀ cd, (Instr.sliceBound (a.eval y) 0 cd).run P w = .ok 0 w := fun cd => by rw [e3, bound_run (by omega) (by omega)]; rfl
      simp [Instr.sliceBounds, M, H, L]
include X
theorem evSlice_run {t : TypeId} {x : Operand} {lo hi mx : Option Operand} {v : Value} (h : evSlice T m s t x lo hi mx = some v) (hM : MS w0 ρ m w1) (hs : SR ρ (dom m) s a.tmps) :
    ∃ tv, VR ρ (dom m) v tv ∧ ∀ w, (Instr.sliceAt t (a.eval x) (lo.map a.eval) (hi.map a.eval) (mx.map a.eval)).run P w = .ok tv w := by
  unfold evSlice at h
  split at h
  · rename_i i o n hx
    split at h
    · cases h
    rename_i e sz bt ht
    obtain ⟨j, hund, hj, hjs, hjb, hne⟩ := X.elm_at ht
    split at h
    · rename_i T' sz' ex cs hmi
      obtain ⟨xs, _, _, hsz, _⟩ := hM.obj _ _ hmi
      have hxv := lk_eval hs hx
      generalize a.eval x = xv at *
      cases hb : Nat.beq sz sz' with
      | false => rw [hb] at h; simp at h
      | true =>
        rw [hb] at h
        simp only [cond_true] at h
        have hsz' := Nat.eq_of_beq_eq_true hb
        cases hxv with
        | sc hc => simp [scB] at hc
        | @sl _ _ l0 _ hD hz ho hn =>
          split at h
          · split at h
            · cases h
            rename_i hh hhe
            split at h
            · cases h
            rename_i l hle
            cases hc : (Nat.beq l 0 || Nat.blt l n) with
            | false => rw [hc] at h; simp at h
            | true =>
              rw [hc] at h
              simp only [cond_true, Option.some.injEq] at h
              subst h
              have hb := fun w => bounds_run (P := P) (isS := true) (d0 := 0) (c := (ρ i).κ - l0) hs (by omega) hhe hle w
              obtain ⟨_, h1, h2⟩ := hb w1
              have hcl : l = 0 ∨ l < n := by
                simp only [Bool.or_eq_true] at hc
                exact hc.imp Nat.eq_of_beq_eq_true blt_iff'
              refine ⟨.slice (some ⟨(ρ i).b, o + l * sz, none⟩) (hh - l) ((ρ i).κ - (l0 + l)), ?_, fun w => ?_⟩
              · refine .sl hD hz ?_ (by omega)
                rw [ho, hsz', ← hsz, Nat.add_mul]
              · have hif : (if (ρ i).κ - l0 = l then (some ⟨(ρ i).b, o, none⟩ : Option Addr) else (some (⟨(ρ i).b, o, none⟩ : Addr)).map (·.add (l * sz))) = some ⟨(ρ i).b, o + l * sz, none⟩ := by
                  split
                  · rename_i he
                    have : l = 0 := by omega
                    subst this
                    simp
                  · simp [Addr.add_lit]
                simp only [Instr.sliceAt, Sem.run_bind, run_underlying hund, Result.andThen_ok, Instr.slice, (hb w).1, Option.map_none, run_sizeOf' hj, hjs, Sem.run_pure, hif]
                congr 2
                omega
          · rename_i mxo
            split at h
            · rename_i hm0
              split at h
              · cases h
              rename_i hh hhe
              split at h
              · cases h
              rename_i l hle
              cases hc : hi.isSome with
              | false => rw [hc] at h; simp at h
              | true =>
                rw [hc] at h
                simp only [cond_true, Option.some.injEq] at h
                subst h
                refine ⟨_, .s0 hD, fun w => ?_⟩
                have hb := bounds_max0 (P := P) (isS := true) (e1 := 0) (c := (ρ i).κ - l0) hs (by omega) hm0 hhe hle hc w
                simp [Instr.sliceAt, Sem.run_bind, run_underlying hund, Instr.slice, hb, run_sizeOf' hj, hjs]
            · cases h
    · cases h
  · rename_i hx
    split at h
    · cases h
    rename_i p ht
    obtain ⟨e, sz, bt⟩ := p
    obtain ⟨j, hund, hj, hjs, hjb, hne⟩ := X.elm_at ht
    have hxv := (lk_eval hs hx).scal rfl
    split at h
    · cases h
    rename_i mm hmm
    split at h
    · cases h
    rename_i hh hhe
    split at h
    · cases h
    rename_i l hle
    cases hc : (hi.isSome || mx.isNone) with
    | false => rw [hc] at h; simp at h
    | true =>
      rw [hc] at h
      simp only [cond_true, Option.some.injEq] at h
      subst h
      refine ⟨_, .sc rfl, fun w => ?_⟩
      cases mx with
      | none =>
        have hb := (bounds_run (P := P) (isS := true) (d0 := 0) (n := 0) (c := 0) hs (Nat.le_refl _) hhe (by
          have : hh = 0 := by
            cases hi with
            | none => simp [evBd] at hhe; omega
            | some y => obtain ⟨k, i, _, _, _, _⟩ := evBd_some hs hhe; omega
          rw [this]; exact hle) w)
        have hl0 : l = 0 ∧ hh = 0 := by omega
        obtain ⟨rfl, rfl⟩ := hl0
        simp [Instr.sliceAt, Sem.run_bind, run_underlying hund, Instr.slice, hxv, hb.1, run_sizeOf' hj, hjs]
      | some y =>
        simp only [Option.isNone_some, Bool.or_false] at hc
        have hmm0 : mm = 0 := by obtain ⟨k, i, _, _, _, _⟩ := evBd_some hs hmm; omega
        subst hmm0
        have hb := bounds_max0 (P := P) (isS := true) (e1 := 0) (n := 0) (c := 0) hs (Nat.le_refl _) hmm hhe hle hc w
        simp [Instr.sliceAt, Sem.run_bind, run_underlying hund, Instr.slice, hxv, hb, run_sizeOf' hj, hjs]
  · rename_i i hx
    split at h
    · rename_i n e ha
      obtain ⟨j, hund, hj, hjs, hne⟩ := X.arr_at ha
      split at h
      · rename_i T' cs hmi
        obtain ⟨xs, _, hk, hsz, _, _, hle, hex, _⟩ := hM.obj _ _ hmi
        cases hc : (Nat.beq cs.length n && lo.isNone && hi.isNone && mx.isNone && Nat.blt 0 n) with
        | false => rw [hc] at h; simp at h
        | true =>
          rw [hc] at h
          simp only [cond_true, Option.some.injEq] at h
          subst h
          simp only [Bool.and_eq_true, Option.isNone_iff_eq_none] at hc
          obtain ⟨⟨⟨⟨c1, rfl⟩, rfl⟩, rfl⟩, c5⟩ := hc
          have c1 := Nat.eq_of_beq_eq_true c1
          have c5 := blt_iff' c5
          have hxv := lk_eval hs hx
          generalize a.eval x = xv at *
          have hkn : (ρ i).κ = n := by rw [hsz, Nat.mul_one] at hk; rw [← hk, ← hex rfl, c1]
          cases hxv with
          | sc hc => simp [scB] at hc
          | ptr hD =>
            refine ⟨.slice (some ⟨(ρ i).b, 0, none⟩) n ((ρ i).κ - 0), .sl (l := 0) hD (by omega) (by simp) (by omega), fun w => ?_⟩
            obtain ⟨n, rfl⟩ : ∃ k, n = k + 1 := ⟨n - 1, by omega⟩
            simp [Instr.sliceAt, Instr.sureAddr, Sem.run_bind, run_underlying hund, Instr.sliceBounds, run_sizeOf' hj, hjs, hkn, Addr.add_lit]
      · cases h
    · cases h
  · cases h
end
def evB (T : TD) (b : Builtin) (vs : List Value) (ts : List TypeId) : Option Value :=
  match b, vs, ts with
  | .len, [.slice _ n _], [t] => match T.elm.get t with | some _ => some (.int .i64 n) | none => none
  | .max, [.int k a, .int k' b], _ => cond (ikq k k') (some (.int k (cond (decide (a < b)) b a))) none
  | .min, [.int k a, .int k' b], _ => cond (ikq k k') (some (.int k (cond (decide (b < a)) b a))) none
  | _, _, _ => none
def ePpick (s : Tre Value) (c a b : Operand) : Option Value := match lk s c with
  | some (.bool t) => cond t (lk s a) (lk s b)
  | _ => none
def ePnil (s : Tre Value) (x : Operand) : Option Value := match lk s x with
  | some (.pointer (some ⟨j, o, none⟩)) => some (.pointer (some ⟨j, o, none⟩))
  | _ => none
def ePbin (T : TD) (s : Tre Value) (op : BinOp) (t : TypeId) (x y : Operand) : Option Value := match lk s x with
  | none => none
  | some u => match lk s y with
    | none => none
    | some v => evBin T op t u v
def ePun (s : Tre Value) (op : UnOp) (x : Operand) : Option Value := match op, lk s x with
  | .not, some (.bool b) => some (.bool (!b))
  | .neg, some (.int k n) => retI k (0 - n)
  | _, _ => none
def ePconv (T : TD) (s : Tre Value) (src dst : TypeId) (x : Operand) : Option Value := match lk s x, T.knd.get src, T.knd.get dst with
  | some (.int _ n), some _, some k' => retI k' n
  | _, _, _ => none
def ePfun (s : Tre Value) (fn : Fn) (first captured : Array Operand) : Option Value := match fn with
  | .func f => match lks s first.toList with
    | none => none
    | some xs => match lks s captured.toList with
      | none => none
      | some ys => some (.func (.func f) xs.toArray ys.toArray)
  | _ => none
def ePfa (T : TD) (s : Tre Value) (t : TypeId) (x : Operand) (i : Nat) : Option Value := match lk s x with
  | some (.pointer (some ⟨j, o, none⟩)) => match T.fld.get t with
    | none => none
    | some l => match l[i]? with
      | none => none
      | some (off, n, _) => cond (Nat.beq n 0) none (some (.pointer (some ⟨j, o + off, none⟩)))
  | _ => none
def ePfld (T : TD) (s : Tre Value) (t : TypeId) (x : Operand) (i : Nat) : Option Value := match lk s x with
  | some (.agg cs) => match T.fld.get t with
    | none => none
    | some l => match l[i]? with
      | none => none
      | some (off, n, ag) => partL ag n cs.toList off
  | _ => none
def ePia (T : TD) (s : Tre Value) (t : TypeId) (x y : Operand) : Option Value := match lk s y with
  | some (.int _ i) => match lk s x with
    | some (.slice (some ⟨j, o, none⟩) n _) => match T.elm.get t with
      | none => none
      | some (_, sz, _) => match evIx n i with
        | none => none
        | some k => some (.pointer (some ⟨j, o + k * sz, none⟩))
    | some (.pointer (some ⟨j, o, none⟩)) => match T.arr.get t with
      | none => none
      | some (n, _, sz) => match evIx n i with
        | none => none
        | some k => some (.pointer (some ⟨j, o + k * sz, none⟩))
    | _ => none
  | _ => none
def ePix (T : TD) (s : Tre Value) (t : TypeId) (x y : Operand) : Option Value := match lk s y with
  | some (.int _ i) => match lk s x with
    | some (.agg cs) => match T.arr.get t with
      | none => none
      | some (n, e, sz) => match T.siz.get e with
        | none => none
        | some (n', ag) => match evIx n i with
          | none => none
          | some k => partL ag n' cs.toList (k * sz)
    | _ => none
  | _ => none
def ePex (s : Tre Value) (x : Operand) (i : Nat) : Option Value := match lk s x with
  | some (.tuple vs) => vs.toList[i]?
  | _ => none
def ePcall (T : TD) (s : Tre Value) (c : Call) : Option Value := match c with
  | { callee := .builtin b, args := xs, argTypes := ts } => match lks s xs.toList with
    | none => none
    | some vs => evB T b vs ts.toList
  | _ => none
def evP (T : TD) (m : Tre MO) (s : Tre Value) : Op → Option Value
  | .move x => lk s x
  | .assign x => lk s x
  | .pick c a b => ePpick s c a b
  | .nilCheck x => ePnil s x
  | .binOp op t x y _ => ePbin T s op t x y
  | .unOp op _ x => ePun s op x
  | .convert src dst x => ePconv T s src dst x
  | .makeFunc fn first captured => ePfun s fn first captured
  | .build t parts => evBuild T s t parts.toList
  | .slice t x lo hi mx => evSlice T m s t x lo hi mx
  | .fieldAddr t x i => ePfa T s t x i
  | .field t x i => ePfld T s t x i
  | .indexAddr t x y => ePia T s t x y
  | .index t x y => ePix T s t x y
  | .extract x i => ePex s x i
  | .call c => ePcall T s c
  | _ => none
theorem arr1 {α : Type} {a : Array α} {x : α} (h : a.toList = [x]) : a = #[x] := by apply Array.ext'; simpa using h
theorem VRs.one {ρ : Nat → Rb} {D : Nat → Prop} {x : Value} {vs : List Value} (h : VRs ρ D [x] vs) : ∃ v, vs = [v] ∧ VR ρ D x v := by
  match vs, h.1 with
  | [v], _ => exact ⟨v, rfl, h.2 0 x v rfl rfl⟩
theorem VRs.two {ρ : Nat → Rb} {D : Nat → Prop} {x y : Value} {vs : List Value} (h : VRs ρ D [x, y] vs) : ∃ v u, vs = [v, u] ∧ VR ρ D x v ∧ VR ρ D y u := by
  match vs, h.1 with
  | [v, u], _ => exact ⟨v, u, rfl, h.2 0 x v rfl rfl, h.2 1 y u rfl rfl⟩
section
variable {P : Program} {T : TD} (X : TX P T) {ρ : Nat → Rb} {m : Tre MO} {s : Tre Value} {a : Act} {w0 : W0} {w1 : World} {o : Oper}
include X
theorem evB_run {b : Builtin} {vs : List Value} {xs : Array Operand} {ts : Array TypeId} {v : Value} (h : evB T b vs ts.toList = some v) {ty : TypeId} {cb : Array Bool} (hv : VRs ρ (dom m) vs (xs.toList.map a.eval)) :
    ∃ tv, VR ρ (dom m) v tv ∧ ∀ w, (builtin b ts ty cb (xs.map a.eval)).run P w = .ok (.value tv) w := by
  have hxs : xs.map a.eval = (xs.toList.map a.eval).toArray := by rw [← Array.toList_map]
  rw [hxs]
  generalize xs.toList.map a.eval = us at *
  unfold evB at h
  split at h
  · rename_i ad n c t heq
    split at h
    · rename_i p ht
      obtain ⟨e, sz, bt⟩ := p
      obtain ⟨j, hund, _⟩ := X.elm_at ht
      cases h
      obtain ⟨u, rfl, hu⟩ := hv.one
      have := arr1 heq
      subst this
      refine ⟨_, .sc rfl, fun w => ?_⟩
      cases hu <;> simp [builtin, Builtin.len_, run_underlying hund, goInt]
    · cases h
  · rename_i k x k' y
    cases hk : ikq k k' with
    | false => rw [hk] at h; simp at h
    | true =>
      rw [hk] at h
      have := ikq_eq hk
      subst this
      obtain ⟨u, u', rfl, h1, h2⟩ := hv.two
      have e1 := h1.scal rfl
      have e2 := h2.scal rfl
      subst e1; subst e2
      simp only [cond_true, Option.some.injEq] at h
      subst h
      refine ⟨_, .sc rfl, fun w => ?_⟩
      by_cases hlt : x < y <;> simp [builtin, Builtin.max_, Builtin.max2, hlt]
  · rename_i k x k' y
    cases hk : ikq k k' with
    | false => rw [hk] at h; simp at h
    | true =>
      rw [hk] at h
      have := ikq_eq hk
      subst this
      obtain ⟨u, u', rfl, h1, h2⟩ := hv.two
      have e1 := h1.scal rfl
      have e2 := h2.scal rfl
      subst e1; subst e2
      simp only [cond_true, Option.some.injEq] at h
      subst h
      refine ⟨_, .sc rfl, fun w => ?_⟩
      by_cases hlt : y < x <;> simp [builtin, Builtin.min_, Builtin.min2, hlt]
  · cases h
theorem evP_run {v : Value} (h : evP T m s o.op = some v) (hM : MS w0 ρ m w1) (hs : SR ρ (dom m) s a.tmps) : ∃ tv, VR ρ (dom m) v tv ∧ ∀ w, (execOp a.eval o).run P w = .ok (.value tv) w := by
  cases ho : o.op <;> rw [ho] at h <;> simp only [evP, reduceCtorEq] at h
  case move x => exact ⟨_, lk_eval hs h, fun w => by simp only [execOp, ho]; rfl⟩
  case assign x => exact ⟨_, lk_eval hs h, fun w => by simp only [execOp, ho]; rfl⟩
  case pick c x y =>
    unfold ePpick at h
    split at h
    · rename_i t hc
      have e := (lk_eval hs hc).scal rfl
      cases t with
      | true => exact ⟨_, lk_eval hs h, fun w => by simp only [execOp, ho, e]; rfl⟩
      | false => exact ⟨_, lk_eval hs h, fun w => by simp only [execOp, ho, e]; rfl⟩
    · cases h
  case nilCheck x =>
    unfold ePnil at h
    split at h
    · rename_i j o' hx
      cases h
      have hv := lk_eval hs hx
      refine ⟨_, hv, fun w => ?_⟩
      generalize hxe : a.eval x = xv at *
      cases hv with
      | sc hc => simp [scB] at hc
      | ptr hD => simp [execOp, ho, hxe]
    · cases h
  case binOp op t x y t' =>
    unfold ePbin at h
    split at h
    · cases h
    rename_i u hu
    split at h
    · cases h
    rename_i v' hv
    obtain ⟨h1, h2⟩ := evBin_run X h (lk_eval hs hu) (lk_eval hs hv) x y
    exact ⟨_, .sc h1, fun w => by
      simp only [execOp, ho]
      rw [Sem.run_bind, h2 w]
      rfl⟩
  case unOp op t x =>
    unfold ePun at h
    split at h
    · rename_i b hx
      cases h
      have e := (lk_eval hs hx).scal rfl
      exact ⟨_, .sc rfl, fun w => by simp [execOp, ho, e, Op.unary]⟩
    · rename_i k n hx
      rw [retI_some h]
      have e := (lk_eval hs hx).scal rfl
      have hr : ∀ w, (Op.unary .neg (.int k n)).run P w = .ok (.int k (k.wrap (0 - n))) w := fun w => by simp [Op.unary, go_sem]
      exact ⟨_, .sc rfl, fun w => by simp only [execOp, ho, e, Sem.run_bind, hr]; rfl⟩
    · cases h
  case convert src dst x =>
    unfold ePconv at h
    split at h
    · rename_i k n k1 k' hx h1 h2
      rw [retI_some h]
      have e := (lk_eval hs hx).scal rfl
      exact ⟨_, .sc rfl, fun w => by simp [execOp, ho, e, convert, run_underlying (X.knd_at h1), run_underlying (X.knd_at h2), Conv.intToInt]⟩
    · cases h
  case makeFunc fn first captured =>
    unfold ePfun at h
    split at h
    · rename_i f
      split at h
      · cases h
      rename_i xs hxs
      split at h
      · cases h
      rename_i ys hys
      cases h
      have h1 := lks_eval hs hxs
      have h2 := lks_eval hs hys
      refine ⟨.func (.func f) (first.map a.eval) (captured.map a.eval), ?_, fun w => by simp [execOp, ho, Instr.makeFunc]⟩
      refine .fn (by simpa using h1.1) (fun j x y hx hy => ?_) (by simpa using h2.1) (fun j x y hx hy => ?_)
      · exact h1.2 j x y (by simpa using hx) (by simpa using hy)
      · exact h2.2 j x y (by simpa using hx) (by simpa using hy)
    · cases h
  case build t parts =>
    obtain ⟨tv, h1, h2⟩ := evBuild_run X h hs
    exact ⟨tv, h1, fun w => by simp only [execOp, ho, Sem.run_bind, h2 w]; rfl⟩
  case slice t x lo hi mx =>
    obtain ⟨tv, h1, h2⟩ := evSlice_run X h hM hs
    exact ⟨tv, h1, fun w => by simp only [execOp, ho, Sem.run_bind, h2 w]; rfl⟩
  case fieldAddr t x i =>
    unfold ePfa at h
    split at h
    · rename_i j o' hx
      split at h
      · cases h
      rename_i l hl
      split at h
      · cases h
      rename_i off n ag hi
      cases hb : Nat.beq n 0 with
      | true => rw [hb] at h; simp at h
      | false =>
        rw [hb] at h
        simp only [cond_false, Option.some.injEq] at h
        subst h
        obtain ⟨fs, f, jj, d, hu, hf, hoff, hj, hjs, hd, hag⟩ := X.fld1 hl hi
        have hn : n ≠ 0 := fun e => by subst e; simp at hb
        have hv := lk_eval hs hx
        generalize hxe : a.eval x = xv at *
        cases hv with
        | sc hc => simp [scB] at hc
        | ptr hD => exact ⟨_, .ptr hD, fun w => by simp [execOp, ho, hxe, Instr.fieldAt, run_underlying hu, hf, Instr.sureAddr, fieldPlace, run_sizeOf' hj, hjs, hn, hoff, Addr.add_lit]⟩
    · cases h
  case field t x i =>
    unfold ePfld at h
    split at h
    · rename_i cs hx
      split at h
      · cases h
      rename_i l hl
      split at h
      · cases h
      rename_i off n ag hi
      obtain ⟨fs, f, jj, d, hu, hf, hoff, hj, hjs, hd, hag⟩ := X.fld1 hl hi
      obtain ⟨tcs, e, hc⟩ := (lk_eval hs hx).agI
      obtain ⟨tv, h1, h2⟩ := part_run hj hjs hd hag hc h
      exact ⟨tv, h1, fun w => by simp [execOp, ho, e, Instr.field, run_underlying hu, hf, asAgg, hoff, h2]⟩
    · cases h
  case indexAddr t x y =>
    unfold ePia at h
    split at h
    · rename_i k i hy
      have ey := (lk_eval hs hy).scal rfl
      split at h
      · rename_i j o' n c hx
        split at h
        · cases h
        rename_i e sz bt ht
        obtain ⟨jj, hund, hj, hjs, _, hne⟩ := X.elm_at ht
        split at h
        · cases h
        rename_i kk hkk
        cases h
        obtain ⟨h0, h1, h2⟩ := evIx_spec hkk
        have hv := lk_eval hs hx
        generalize hxe : a.eval x = xv at *
        cases hv with
        | sc hc => simp [scB] at hc
        | sl hD hz hoo hn => exact ⟨_, .ptr hD, fun w => by simp [execOp, ho, hxe, ey, Instr.indexAt, asIntOf, run_underlying hund, run_sizeOf' hj, h0, h1, hjs, h2, Addr.add_lit]⟩
        | s0 hD => exact absurd h1 (by omega)
      · rename_i j o' hx
        split at h
        · cases h
        rename_i n e sz ht
        obtain ⟨jj, hund, hj, hjs, hne⟩ := X.arr_at ht
        split at h
        · cases h
        rename_i kk hkk
        cases h
        obtain ⟨h0, h1, h2⟩ := evIx_spec hkk
        have hv := lk_eval hs hx
        generalize hxe : a.eval x = xv at *
        cases hv with
        | sc hc => simp [scB] at hc
        | ptr hD => exact ⟨_, .ptr hD, fun w => by simp [execOp, ho, hxe, ey, Instr.indexAt, asIntOf, run_underlying hund, run_sizeOf' hj, h0, h1, hjs, h2, Addr.add_lit, Instr.sureAddr]⟩
      · cases h
    · cases h
  case index t x y =>
    unfold ePix at h
    split at h
    · rename_i k i hy
      have ey := (lk_eval hs hy).scal rfl
      split at h
      · rename_i cs hx
        split at h
        · cases h
        rename_i n e sz ht
        obtain ⟨jj, hund, hj, hjs, hne⟩ := X.arr_at ht
        split at h
        · cases h
        rename_i n' ag hsz
        obtain ⟨j2, d, hj2, hjn, hne2, hd, hag⟩ := X.siz_at hsz
        split at h
        · cases h
        rename_i kk hkk
        obtain ⟨h0, h1, h2⟩ := evIx_spec hkk
        obtain ⟨tcs, e1, hc⟩ := (lk_eval hs hx).agI
        obtain ⟨tv, g1, g2⟩ := part_run hj2 hjn hd hag hc h
        exact ⟨tv, g1, fun w => by simp [execOp, ho, e1, ey, Instr.index, asIntOf, run_underlying hund, h0, h1, h2, run_sizeOf' hj, hjs, g2]⟩
      · cases h
    · cases h
  case extract x i =>
    unfold ePex at h
    split at h
    · rename_i vs hx
      obtain ⟨us, e, hu⟩ := (lk_eval hs hx).tuI
      obtain ⟨tv, h1, h2⟩ := hu.get h
      have h1' : us[i]? = some tv := by simpa using h1
      exact ⟨tv, h2, fun w => by simp [execOp, ho, e, Instr.extract, h1']⟩
    · cases h
  case call c =>
    obtain ⟨callee, xs, ts⟩ := c
    cases callee with
    | builtin b =>
      simp only [ePcall] at h
      split at h
      · cases h
      rename_i vs hvs
      have h1 := lks_eval hs hvs
      obtain ⟨tv, g1, g2⟩ := evB_run X h (ty := o.type) (cb := xs.map fun | .const _ => true | _ => false) h1
      refine ⟨tv, g1, fun w => ?_⟩
      have := g2 w
      simp only [execOp, ho, resolve, Sem.run_bind, Sem.run_pure, Result.andThen_ok, invoke]
      exact this
    | value f => simp [ePcall] at h
    | invoke r mth => simp [ePcall] at h
end
end
end Go.Ev
