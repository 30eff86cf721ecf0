/- The machine for closed calls: operations that look at memory, make it and write it. -/
import Derived.Test.YtfiacjdkdjkiiaaEv1
namespace Go.Ev
open Go Go.RowKit Go.Tl
set_option linter.unusedVariables false
set_option linter.unusedSimpArgs false
noncomputable section
structure MP where
  kk : Option (List Bool)
  z : Value
  deriving Inhabited
def findM (k : Value) : List (Value × Value × Nat) → Nat → Option (Nat × Value × Nat)
  | [], _ => none
  | (k', v, n) :: r, i => cond (keyEq k k') (some (i, v, n)) (findM k r (i + 1))
def findE (k : Value) : List MapEntry → Nat → Option (Nat × Value)
  | [], _ => none
  | e :: es, i => cond (keyEq k e.key) (some (i, e.val)) (findE k es (i + 1))
def MX (P : Program) (t : TypeId) (p : MP) : Prop := ∃ kt vt, P.underlying t = some (.map kt vt) ∧ (cellsL p.z).all scB = true ∧ (∀ w, (zeroValue vt).run P w = .ok p.z w) ∧
  (∀ e k w, keyOk p.kk k = true → (Instr.checkKey e 10000 kt k).run P w = .ok () w) ∧ (∀ k (es : List MapEntry) w, keyOk p.kk k = true → (∀ e ∈ es, keyOk p.kk e.key = true) → (Instr.findKey kt k es).run P w = .ok (findE k es 0) w)
def blq : List Bool → List Bool → Bool
  | [], [] => true
  | true :: a, true :: b => blq a b
  | false :: a, false :: b => blq a b
  | _, _ => false
theorem blq_eq : ∀ {a b : List Bool}, blq a b = true → a = b
  | [], [], _ => rfl
  | true :: a, true :: b, h => by rw [blq_eq (a := a) (b := b) h]
  | false :: a, false :: b, h => by rw [blq_eq (a := a) (b := b) h]
  | [], _ :: _, h => by simp [blq] at h
  | true :: _, [], h => by simp [blq] at h
  | false :: _, [], h => by simp [blq] at h
  | true :: _, false :: _, h => by simp [blq] at h
  | false :: _, true :: _, h => by simp [blq] at h
def kkq : Option (List Bool) → Option (List Bool) → Bool
  | none, none => true
  | some a, some b => blq a b
  | _, _ => false
theorem kkq_eq {a b : Option (List Bool)} (h : kkq a b = true) : a = b := by
  cases a <;> cases b <;> simp only [kkq, Bool.false_eq_true] at h
  · rfl
  · rw [blq_eq h]
theorem keyOk_val {ρ : Nat → Rb} {D : Nat → Prop} {kk : Option (List Bool)} {k v : Value} (h : keyOk kk k = true) (hv : VR ρ D k v) : v = k := by
  cases k with
  | agg cs =>
    obtain ⟨vs, rfl, hc⟩ := hv.agI
    cases kk with
    | none => simp [keyOk] at h
    | some ks =>
      have := hc.scals (kOk_sc h)
      have : vs = cs := by apply Array.ext'; exact this
      rw [this]
  | int k n => exact hv.scal rfl
  | _ => simp [keyOk] at h
theorem keyEq_iff {kk : Option (List Bool)} {k k' : Value} (h : keyOk kk k = true) (h' : keyOk kk k' = true) : keyEq k k' = true ↔ k = k' := by
  cases k with
  | agg cs =>
    cases kk with
    | none => simp [keyOk] at h
    | some ks =>
      cases k' with
      | agg cs' =>
        have := scqs_iff (ks := ks) (xs := cs.toList) (ys := cs'.toList) h h'
        simp only [keyEq, this]
        constructor
        · intro e; congr 1; apply Array.ext'; exact e
        · intro e; cases e; rfl
      | int q n => cases q <;> simp [keyOk] at h'
      | _ => simp [keyOk] at h'
  | int q n =>
    cases q <;> simp [keyOk] at h
    subst h
    cases k' with
    | int q' n' => cases q' <;> simp [keyOk] at h' <;> simp [keyEq]
    | agg cs' => simp [keyOk] at h'
    | _ => simp [keyOk] at h'
  | _ => simp [keyOk] at h
section
variable {ρ : Nat → Rb} {D : Nat → Prop}
theorem find_rel {k : Value} : ∀ {es : List (Value × Value × Nat)} {tes : List MapEntry} (h : ME ρ D es tes) (j : Nat),
    (findM k es j = none ∧ findE k tes j = none) ∨ (∃ i x n e, findM k es j = some (j + i, x, n) ∧ findE k tes j = some (j + i, e.val) ∧ es[i]? = some (e.key, x, n) ∧ tes[i]? = some e ∧ keyEq k e.key = true ∧ VR ρ D x e.val ∧ e.born = n)
  | [], tes, h, j => by cases h; exact .inl ⟨rfl, rfl⟩
  | (k', x, n) :: es, tes, h, j => by
    cases h with
    | @cons _ _ _ e _ tes hk hn hv h =>
      cases hb : keyEq k k' with
      | true => exact .inr ⟨0, x, n, e, by simp [findM, hb], by simp [findE, hk, hb], by simp [hk], rfl, by rw [hk]; exact hb, hv, hn⟩
      | false =>
        rcases find_rel h (j + 1) with ⟨h1, h2⟩ | ⟨i, x', n', e', h1, h2, h3, h4, h5, h6, h7⟩
        · exact .inl ⟨by simp only [findM, hb, cond_false]; exact h1, by simp only [findE, hk, hb, cond_false]; exact h2⟩
        · have e1 : j + (i + 1) = j + 1 + i := by omega
          exact .inr ⟨i + 1, x', n', e', by simp only [findM, hb, cond_false]; rw [e1]; exact h1, by simp only [findE, hk, hb, cond_false]; rw [e1]; exact h2, by simpa using h3, by simpa using h4, h5, h6, h7⟩
theorem ME.keys {kk : Option (List Bool)} {es : List (Value × Value × Nat)} {tes : List MapEntry} (h : ME ρ D es tes) (hk : ∀ e ∈ es, keyOk kk e.1 = true) : ∀ e ∈ tes, keyOk kk e.key = true := by
  induction h with
  | nil => intro e he; cases he
  | cons h1 h2 h3 _ ih =>
    intro e he
    rcases List.mem_cons.1 he with rfl | he
    · rw [h1]; exact hk _ List.mem_cons_self
    · exact ih (fun e he => hk e (List.mem_cons_of_mem _ he)) e he
theorem ME.push {es : List (Value × Value × Nat)} {tes : List MapEntry} (h : ME ρ D es tes) {k x : Value} {n : Nat} {e : MapEntry} (hk : e.key = k) (hn : e.born = n) (hv : VR ρ D x e.val) : ME ρ D (es ++ [(k, x, n)]) (tes ++ [e]) := by
  induction h with
  | nil => exact .cons hk hn hv .nil
  | cons a b c _ ih => exact .cons a b c ih
theorem ME.set {es : List (Value × Value × Nat)} {tes : List MapEntry} (h : ME ρ D es tes) : ∀ {i : Nat} {k x : Value} {n : Nat} {e : MapEntry}, e.key = k → e.born = n → VR ρ D x e.val → ME ρ D (es.set i (k, x, n)) (tes.set i e) := by
  induction h with
  | nil => intro i k x n e hk hn hv; exact .nil
  | cons a b c h ih =>
    intro i k x n e hk hn hv
    cases i with
    | zero => exact .cons hk hn hv h
    | succ i => exact .cons a b c (ih hk hn hv)
theorem VR.ofSc {z : Value} (h : (cellsL z).all scB = true) : VR ρ D z z := by
  cases z with
  | agg cs => have := VR.agL (VRs.sc (ρ := ρ) (D := D) (show cs.toList.all scB = true from h)); simpa using this
  | tuple cs => simp [cellsL, scB] at h
  | _ => exact .sc (by simpa [cellsL] using h)
end
structure TM (P : Program) (D : TD) (M : Tre MP) : Prop extends TX P D where
  mpOk : ∀ t p, M.get t = some p → MX P t p
def lookV (ok : Bool) (z : Value) : Option (Nat × Value × Nat) → Value
  | some (_, v, _) => cond ok (.tuple #[v, .bool true]) v
  | none => cond ok (.tuple #[z, .bool false]) z
def eLload (T : TD) (m : Tre MO) (s : Tre Value) (t : TypeId) (x : Operand) : Option (Value × Nat) := match lk s x with
  | some (.pointer (some ⟨i, o, none⟩)) => match T.siz.get t with
    | none => none
    | some (n, ag) => match m.get i with
      | some (.cl _ _ _ cs) => match partL ag n cs o with
        | none => none
        | some v => some (v, i)
      | _ => none
  | _ => none
def eLlook (M : Tre MP) (m : Tre MO) (s : Tre Value) (t : TypeId) (x k : Operand) (ok : Bool) : Option (Value × Nat) := match lk s x with
  | some (.map (some i)) => match lk s k with
    | none => none
    | some kv => match M.get t with
      | none => none
      | some p => match m.get i with
        | some (.mp kk es _) => cond (keyOk p.kk kv && kkq kk p.kk) (some (lookV ok p.z (findM kv es 0), i)) none
        | _ => none
  | _ => none
def evL (T : TD) (M : Tre MP) (m : Tre MO) (s : Tre Value) : Op → Option (Value × Nat)
  | .load t x => eLload T m s t x
  | .lookup t x k ok => eLlook M m s t x k ok
  | _ => none
section
variable {P : Program} {T : TD} {M : Tre MP} (X : TM P T M) {ρ ρ' : Nat → Rb} {D' : Nat → Prop} {m : Tre MO} {s : Tre Value} {a : Act} {o : Oper}
include X
theorem evL_run {v : Value} {i : Nat} (h : evL T M m s o.op = some (v, i)) (hs : SR ρ' D' s a.tmps) (hag : ∀ j, dom m j → ρ' j = ρ j) :
    ∃ ob, m.get i = some ob ∧ ob.live = true ∧ ∀ w, OR ρ (dom m) w i ob → ∃ tv, VR ρ (dom m) v tv ∧ (execOp a.eval o).run P w = .ok (.value tv) w := by
  cases ho : o.op <;> rw [ho] at h <;> simp only [evL, reduceCtorEq] at h
  case load t x =>
    unfold eLload at h
    split at h
    · rename_i j off hx
      split at h
      · cases h
      rename_i n ag ht
      split at h
      · rename_i T' sz ex cs hmi
        split at h
        · cases h
        rename_i v' hv
        cases h
        refine ⟨_, hmi, rfl, fun w hw => ?_⟩
        obtain ⟨xs, h1, h2, h3, h4, h5, h6, h8, h7⟩ := hw
        obtain ⟨jj, d, hj, hjn, hne, hu, hd⟩ := X.siz_at ht
        have hxv := lk_eval hs hx
        generalize hxe : a.eval x = xv at *
        cases hxv with
        | sc hc => simp [scB] at hc
        | ptr hD =>
          rw [hag _ ⟨_, hmi⟩] at hxe
          unfold partL at hv
          cases ag with
          | true =>
            simp only [cond_true] at hv
            cases hb : Nat.ble (off + n) cs.length with
            | false => rw [hb] at hv; simp at hv
            | true =>
              rw [hb] at hv
              have hle := Nat.le_of_ble_eq_true hb
              simp only [cond_true, Option.some.injEq] at hv
              subst hv
              have hr := (h7.drop off).take n
              refine ⟨.agg (((xs.take cs.length).drop off).take n).toArray, .agL hr, ?_⟩
              have hl : (((xs.take cs.length).drop off).take n).length = n := by rw [← hr.1]; simp; omega
              have := run_loadCells' (P := P) (w := w) (b := (ρ i).b) (o := off) (vs := ((xs.take cs.length).drop off).take n) (fun q u hq => by
                rw [List.getElem?_take] at hq
                split at hq
                · rw [List.getElem?_drop, List.getElem?_take] at hq
                  split at hq
                  · simp [World.cell?, h1, hq]
                  · cases hq
                · cases hq)
              rw [hl] at this
              simp [execOp, ho, hxe, Instr.loadAt, Instr.sureAddr, loadVar, run_isAgg' hu, hd, run_sizeOf' hj, hjn, this]
          | false =>
            simp only [cond_false] at hv
            obtain ⟨tv, g1, g2⟩ := h7.get hv
            refine ⟨tv, g2, ?_⟩
            rw [List.getElem?_take] at g1
            split at g1
            · have hc : w.cell? ⟨(ρ i).b, off, none⟩ = some tv := by simp [World.cell?, h1, g1]
              simp [execOp, ho, hxe, Instr.loadAt, Instr.sureAddr, loadVar, run_isAgg' hu, hd, hc]
            · cases g1
      · cases h
    · cases h
  case lookup t x k ok =>
    unfold eLlook at h
    split at h
    · rename_i j hx
      split at h
      · cases h
      rename_i kv hk
      split at h
      · cases h
      rename_i p hp
      split at h
      · rename_i kk es ck hmi
        cases hc : (keyOk p.kk kv && kkq kk p.kk) with
        | false => rw [hc] at h; simp at h
        | true =>
          rw [hc] at h
          simp only [Bool.and_eq_true] at hc
          simp only [cond_true, Option.some.injEq, Prod.mk.injEq] at h
          obtain ⟨rfl, rfl⟩ := h
          refine ⟨_, hmi, rfl, fun w hw => ?_⟩
          obtain ⟨tes, h1, h2, h3⟩ := hw
          obtain ⟨kt, vt, hm, hz1, hz, hchk, hfnd⟩ := X.mpOk t p hp
          have hkk := kkq_eq hc.2
          have ek := keyOk_val hc.1 (lk_eval hs hk)
          have hxv := lk_eval hs hx
          generalize hxe : a.eval x = xv at *
          cases hxv with
          | sc hc => simp [scB] at hc
          | mp hD =>
            rw [hag _ ⟨_, hmi⟩] at hxe
            have hf := hfnd kv tes w hc.1 (by rw [← hkk]; exact h2.keys h3)
            have hg := MapKept.run_getObj_map (P := P) h1
            have hck := hchk
            rcases find_rel (k := kv) h2 0 with ⟨f1, f2⟩ | ⟨i, x', n', e', f1, f2, f3, f4, f5, f6, f7⟩
            · rw [f1]
              rw [f2] at hf
              refine ⟨lookV ok p.z none, ?_, ?_⟩
              · have hzv : VR ρ (dom m) p.z p.z := .ofSc hz1
                cases ok with
                | true => exact .tuL (.cons hzv (.cons (.sc rfl) .nil))
                | false => exact hzv
              · cases ok <;> simp [execOp, ho, hxe, ek, Instr.lookup, run_underlying hm, hg, hck _ _ _ hc.1, hf, hz, Result.andThen, lookV]
            · rw [f1]
              rw [f2] at hf
              refine ⟨cond ok (.tuple #[e'.val, .bool true]) e'.val, ?_, ?_⟩
              · cases ok with
                | true => exact .tuL (.cons f6 (.cons (.sc rfl) .nil))
                | false => exact f6
              · cases ok <;> simp [execOp, ho, hxe, ek, Instr.lookup, run_underlying hm, hg, hck _ _ _ hc.1, hf, Result.andThen]
      · cases h
    · cases h
end
end
end Go.Ev
