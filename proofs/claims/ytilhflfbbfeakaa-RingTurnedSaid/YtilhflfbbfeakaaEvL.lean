/- The machine for closed calls: what it makes or writes is in its log; an operation depends on its operands alone. -/
import Derived.Test.YtilhflfbbfeakaaGE1
namespace Go.Ev
open Go Go.RowKit Go.Tl
set_option linter.unusedVariables false
set_option linter.unusedSimpArgs false
noncomputable section
def Lg (st st' : St) : Prop := ∃ l, st'.lg = l ++ st.lg ∧ ∀ j, j ∉ l → st'.m.get j = st.m.get j
theorem Lg.refl {st : St} : Lg st st := ⟨[], rfl, fun _ _ => rfl⟩
theorem Lg.trans {a b c : St} (h : Lg a b) (h' : Lg b c) : Lg a c := by
  obtain ⟨l, h1, h2⟩ := h
  obtain ⟨l', h3, h4⟩ := h'
  refine ⟨l' ++ l, by rw [h3, h1, List.append_assoc], fun j hj => ?_⟩
  simp only [List.mem_append, not_or] at hj
  rw [h4 j hj.1, h2 j hj.2]
section
variable {st st' : St} {v : Value}
theorem newO_lg {o : MO} {i : Nat} (h : newO st o = some (i, st')) : Lg st st' := by
  unfold newO at h
  simp only [fzO_eq, fzN_eq] at h
  split at h
  · cases h
  split at h
  · cases h
  rename_i m' hm
  simp only [Option.some.injEq, Prod.mk.injEq] at h
  obtain ⟨rfl, rfl⟩ := h
  obtain ⟨h1, h2⟩ := Tre.set_get _ _ _ _ _ hm
  exact ⟨[st.nx], rfl, fun j hj => h2 j (by simpa using hj)⟩
theorem putO_lg {o : MO} {i : Nat} (h : putO st i o = some st') : Lg st st' := by
  unfold putO at h
  simp only [fzO_eq] at h
  split at h
  · cases h
  rename_i m' hm
  cases h
  obtain ⟨h1, h2⟩ := Tre.set_get _ _ _ _ _ hm
  exact ⟨[i], rfl, fun j hj => h2 j (by simpa using hj)⟩
theorem map_new {o : MO} {f : Nat × St → Value × St} (h : (newO st o).map f = some (v, st')) (hf : ∀ r, (f r).2 = r.2) : Lg st st' := by
  obtain ⟨r, hr, e⟩ := Option.map_eq_some_iff.1 h
  have := hf r
  rw [e] at this
  exact newO_lg (i := r.1) (by rw [show st' = r.2 from this]; exact hr)
theorem map_put {o : MO} {i : Nat} {f : St → Value × St} (h : (putO st i o).map f = some (v, st')) (hf : ∀ r, (f r).2 = r) : Lg st st' := by
  obtain ⟨r, hr, e⟩ := Option.map_eq_some_iff.1 h
  have := hf r
  rw [e] at this
  exact putO_lg (by rw [show st' = r from this]; exact hr)
theorem evApp_lg {T : TD} {t : TypeId} {x y : Value} (h : evApp T st t x y = some (v, st')) : Lg st st' := by
  unfold evApp at h
  simp only [Bool.cond_eq_ite] at h
  repeat' split at h
  all_goals first
    | (cases h; done)
    | (cases h; exact Lg.refl)
    | exact map_new h (fun _ => rfl)
    | exact map_put h (fun _ => rfl)
    | exact (putO_lg (by assumption)).trans (map_new h (fun _ => rfl))
theorem evCopy_lg {T : TD} {t : TypeId} {x y : Value} (h : evCopy T st t x y = some (v, st')) : Lg st st' := by
  unfold evCopy at h
  simp only [Bool.cond_eq_ite] at h
  repeat' split at h
  all_goals first
    | (cases h; done)
    | (cases h; exact Lg.refl)
    | exact map_put h (fun _ => rfl)
theorem evClear_lg {T : TD} {t : TypeId} {x : Value} (h : evClear T st t x = some (v, st')) : Lg st st' := by
  unfold evClear at h
  simp only [Bool.cond_eq_ite] at h
  repeat' split at h
  all_goals first
    | (cases h; done)
    | (cases h; exact Lg.refl)
    | exact map_put h (fun _ => rfl)
theorem evM_lg {T : TD} {M : Tre MP} {s : Tre Value} {op : Op} (h : evM T M st s op = some (v, st')) : Lg st st' := by
  cases op <;> simp only [evM, reduceCtorEq] at h
  case call c =>
    unfold eMcall at h
    simp only [Bool.cond_eq_ite] at h
    repeat' split at h
    all_goals first
      | (cases h; done)
      | exact evApp_lg h
      | exact evCopy_lg h
      | exact evClear_lg h
  all_goals
    first | unfold eMalloc at h | unfold eMbox at h | unfold eMbs at h | unfold eMms at h | unfold eMmm at h | unfold eMst at h | unfold eMmu at h | unfold eMme at h | unfold eMes at h
    try simp only [Bool.cond_eq_ite] at h
    repeat' split at h
    all_goals first
      | (cases h; done)
      | (cases h; exact Lg.refl)
      | exact map_new h (fun _ => rfl)
      | exact map_put h (fun _ => rfl)
end
structure LgL (L : Lv) : Prop where
  call : ∀ f args st v st', L.call f args st = some (v, st') → Lg st st'
  code : ∀ f N rd c fr st e fr' st', L.code f N rd c fr st = some (e, fr', st') → Lg st st'
section
variable {C : Cx} {L : Lv} (hG : LgL L) {st st' : St} {v : Value} {s : Tre Value} {N : Nat}
include hG
theorem yieldE_lg {l : Nat} {vs : List Value} (h : yieldE L l vs st = some (v, st')) : Lg st st' := by
  unfold yieldE at h
  split at h
  · split at h
    · cases h
    split at h
    · rename_i hc1
      split at h
      · split at h
        · cases h
        rename_i hst2
        split at h
        · cases h
        rename_i hc3
        have h3 := ((hG.code _ _ _ _ _ _ _ _ _ hc1).trans (putO_lg hst2)).trans (hG.code _ _ _ _ _ _ _ _ _ hc3)
        split at h
        · split at h
          all_goals
            obtain ⟨r, hr, e⟩ := Option.map_eq_some_iff.1 h
            cases e
            exact h3.trans (putO_lg hr)
        · cases h
      · cases h
    · cases h
  · cases h
theorem callE_lg {op : Op} (h : callE L s st op = some (v, st')) : Lg st st' := by
  unfold callE at h
  split at h
  · split at h
    · split at h
      · cases h
      split at h
      · exact hG.call _ _ _ _ _ h
      · exact yieldE_lg hG h
      · cases h
    · cases h
  · cases h
theorem stepO_lg {o : Oper} (h : stepO C L o s st = some (v, st')) : Lg st st' := by
  unfold stepO stepK at h
  split at h
  · unfold withSt at h
    split at h <;> cases h
    exact .refl
  · unfold withSt1 at h
    split at h <;> cases h
    exact .refl
  · exact evM_lg h
  · exact callE_lg hG h
theorem evOps_lg {ops : List Oper} {fr' : Fr} : ∀ {l : List Oper} {fr : Fr} {st : St}, evOps C L N ops l fr st = some (fr', st') → Lg st st'
  | [], fr, st, h => by
    simp only [evOps, Option.some.injEq, Prod.mk.injEq] at h
    obtain ⟨rfl, rfl⟩ := h
    exact .refl
  | o :: rest, fr, st, h => by
    simp only [evOps] at h
    split at h
    · cases h
    · split at h
      · cases h
      · exact evOps_lg h
    · split at h
      · cases h
      rename_i hv
      split at h
      · cases h
      · exact (stepO_lg hG hv).trans (evOps_lg h)
theorem hvT_lg {ops : List Oper} {bs : Option Nat} {i : Nat} {sn : Bool} {k : Fr → St → Option TR} (hk : ∀ fr st R, k fr st = some R → Lg st R.st) {fr : Fr} {R : TR} (h : hvT C L N ops bs i sn k fr st = some R) : Lg st R.st := by
  unfold hvT at h
  split at h
  · cases h
  split at h
  · cases h
  · split at h
    · cases h
    split at h
    · cases h
    rename_i hR
    cases h
    have h2 := hk _ _ _ hR
    cases sn <;> exact h2
  · split at h
    · cases h
    rename_i hv
    split at h
    · cases h
    split at h
    · cases h
    rename_i hR
    cases h
    have h1 := stepO_lg hG hv
    have h2 := hk _ _ _ hR
    cases sn <;> cases bs <;> exact h1.trans h2
end
theorem setL_get : ∀ (dl : List (Nat × MO)) (t : Tre MO) (j : Nat), (setL dl t).get j = match lookL dl j with | some o => some o | none => t.get j
  | [], t, j => rfl
  | (i, o) :: r, t, j => by
    simp only [setL, Tre.force_eq, lookL]
    obtain ⟨h1, h2⟩ := Tre.ins_get (some o) (setL r t) i
    cases hb : Nat.beq i j with
    | true =>
      have := Nat.eq_of_beq_eq_true hb
      subst this
      simp only [cond_true]
      exact h1
    | false =>
      simp only [cond_false]
      rw [h2 j (fun e => by subst e; simp at hb), setL_get r t j]
theorem fold_mem {j : Nat} : ∀ (l : List (Nat × MO)) (r : List Nat), j ∈ r → j ∈ l.foldr (fun y r => y.1 :: r) r
  | [], r, h => h
  | y :: ys, r, h => List.mem_cons_of_mem _ (fold_mem ys r h)
theorem fold_at {j : Nat} {o : MO} : ∀ (l : List (Nat × MO)) (r : List Nat), (j, o) ∈ l → j ∈ l.foldr (fun y r => y.1 :: r) r
  | y :: ys, r, h => by
    rcases List.mem_cons.1 h with e | e
    · rw [← e]; exact List.mem_cons_self
    · exact List.mem_cons_of_mem _ (fold_at ys r e)
theorem fold_app : ∀ (l : List (Nat × MO)) (r : List Nat), l.foldr (fun y r => y.1 :: r) r = l.foldr (fun y r => y.1 :: r) [] ++ r
  | [], r => rfl
  | y :: ys, r => by simp only [List.foldr_cons, List.cons_append]; rw [fold_app ys r]
theorem rcKeys_mem : ∀ {rc : List RE} {r : List Nat} {j : Nat}, j ∈ r → j ∈ rcKeys rc r
  | [], r, j, h => h
  | x :: xs, r, j, h => rcKeys_mem (rc := xs) (fold_mem x.dl r h)
theorem lookL_mem : ∀ {dl : List (Nat × MO)} {j : Nat} {o : MO}, lookL dl j = some o → (j, o) ∈ dl
  | [], j, o, h => by simp [lookL] at h
  | (i, x) :: r, j, o, h => by
    simp only [lookL] at h
    cases hb : Nat.beq i j with
    | true =>
      rw [hb] at h
      simp only [cond_true, Option.some.injEq] at h
      rw [Nat.eq_of_beq_eq_true hb, h]
      exact List.mem_cons_self
    | false => rw [hb] at h; exact List.mem_cons_of_mem _ (lookL_mem h)
theorem rcKeys_at : ∀ {rc : List RE} {r : List Nat} {x : RE} {j : Nat} {o : MO}, x ∈ rc → lookL x.dl j = some o → j ∈ rcKeys rc r
  | y :: ys, r, x, j, o, hx, h => by
    simp only [rcKeys]
    rcases List.mem_cons.1 hx with rfl | hx
    · exact rcKeys_mem (fold_at _ _ (lookL_mem h))
    · exact rcKeys_at hx h
theorem rcKeys_app : ∀ {rc : List RE} {r : List Nat}, rcKeys rc r = rcKeys rc [] ++ r
  | [], r => rfl
  | x :: xs, r => by
    simp only [rcKeys]
    rw [rcKeys_app (rc := xs) (r := x.dl.foldr (fun y r => y.1 :: r) r), rcKeys_app (rc := xs) (r := x.dl.foldr (fun y r => y.1 :: r) []), fold_app x.dl r, List.append_assoc]
theorem delL_get : ∀ (l : List Nat) (t : Tre MO) (j : Nat), (delL l t).get j = if j ∈ l then none else t.get j
  | [], t, j => by simp [delL]
  | i :: r, t, j => by
    simp only [delL, Tre.force_eq]
    obtain ⟨h1, h2⟩ := Tre.ins_get (none : Option MO) (delL r t) i
    by_cases hj : j = i
    · subst hj; rw [h1]; simp
    · rw [h2 j hj, delL_get r t j]; simp [hj]
def aG (m0 : Tre MO) : List RE → Nat → Option MO
  | [], j => m0.get j
  | x :: r, j => match lookL x.dl j with
    | some o => some o
    | none => aG m0 r j
theorem aG_off {m0 : Tre MO} {j : Nat} : ∀ {rc : List RE}, (∀ x ∈ rc, lookL x.dl j = none) → aG m0 rc j = m0.get j
  | [], _ => rfl
  | x :: r, h => by rw [aG, h x List.mem_cons_self]; exact aG_off fun y hy => h y (List.mem_cons_of_mem _ hy)
theorem parGo_mem {C : Cx} {L : Lv} {N : Nat} {ops : List Oper} {m0 : Tre MO} {frF : Fr} {rcF : List RE} {mfF : Tre MO} {nF : Nat} : ∀ {l : List (Nat × Nat × Nat)} {rc : List RE} {mf : Tre MO} {n : Nat} {fr : Fr}, parGo C L N ops m0 l rc mf n fr = some (frF, rcF, mfF, nF) →
    (∀ j, mf.get j = aG m0 rc j) → ∀ j, mfF.get j = aG m0 rcF j
  | [], rc, mf, n, fr, h, hm => by
    simp only [parGo, Option.some.injEq, Prod.mk.injEq] at h
    obtain ⟨_, rfl, rfl, _⟩ := h
    exact hm
  | (i, hv, c) :: rest, rc, mf, n, fr, h, hm => by
    simp only [parGo] at h
    split at h
    · cases h
    split at h
    · cases h
    rename_i v dl n' hp
    split at h
    · cases h
    split at h
    · exact parGo_mem h hm
    · rw [Tre.force_eq] at h
      exact parGo_mem h (fun j => by rw [setL_get, aG, hm])
section
variable {C : Cx} {L : Lv} (hG : LgL L) {N : Nat}
include hG
theorem evT_lg {ops : List Oper} {m0 : Tre MO} {bs : Option Nat} : ∀ (t : PJ) {fr : Fr} {st : St} {R : TR}, evT C L N ops m0 bs t fr st = some R → Lg st R.st := by
  intro t
  induction t with
  | stop =>
    intro fr st R h
    simp only [evT, Option.some.injEq] at h
    subst h
    cases bs <;> exact .refl
  | op i k r ih =>
    intro fr st R h
    match k with
    | 0 =>
      simp only [evT] at h
      split at h
      · cases h
      split at h
      · cases h
      · split at h
        · cases h
        · exact ih h
      · split at h
        · cases h
        split at h
        · cases h
        · exact ih h
    | 1 =>
      simp only [evT, Bool.cond_eq_ite] at h
      split at h
      · cases h
      split at h
      · cases h
      · split at h
        · cases h
        · exact ih h
      · split at h
        · cases h
        split at h
        · cases h
        split at h
        · split at h
          · cases h
          rename_i hR
          cases h
          have h1 := ih hR
          exact h1
        · cases h
    | 2 =>
      simp only [evT] at h
      exact hvT_lg hG (fun _ _ _ hk => ih hk) h
    | k + 3 =>
      simp only [evT] at h
      exact hvT_lg hG (fun _ _ _ hk => ih hk) h
  | fork i r j s ihr ihs =>
    intro fr st R h
    simp only [evT, Bool.cond_eq_ite] at h
    split at h
    · cases h
    rename_i hA
    split at h
    · cases h
    split at h
    · cases h
      have h1 := hvT_lg hG (fun _ _ _ hk => ihr hk) hA
      exact h1
    · cases h
  | par anc e l r ih =>
    intro fr st R h
    simp only [evT] at h
    split at h
    · cases h
    rename_i fr' rc mf n hp
    split at h
    · cases h
    rename_i R1 hR1
    cases h
    have h1 := ih hR1
    refine Lg.trans (b := ⟨mf, n, rcKeys rc st.lg⟩) ⟨rcKeys rc [], rcKeys_app, fun j hj => ?_⟩ h1
    show mf.get j = st.m.get j
    rw [parGo_mem hp (fun j => rfl) j]
    exact aG_off fun x hx => by
      cases hl : lookL x.dl j with
      | none => rfl
      | some o => exact absurd (rcKeys_at hx hl) hj
theorem evReg_lg {f id : Nat} {ops : Array Oper} {draw : Bool} {fr fr' : Fr} {st st' : St} (h : evReg C L f N id ops draw fr st = some (fr', st')) : Lg st st' := by
  unfold evReg at h
  cases draw with
  | false => exact evOps_lg hG h
  | true =>
    simp only [Bool.cond_eq_ite] at h
    split at h
    · cases h
    split at h
    · cases h
    split at h
    · cases h
    rename_i hR
    split at h
    · cases h
      exact evT_lg hG _ hR
    · cases h
theorem codeF_lg {f : Nat} {rd : Bool} {c : Code} {fr fr' : Fr} {st st' : St} {e : Ex} (h : codeF C L f N rd c fr st = some (e, fr', st')) : Lg st st' := by
  have hc := hG.code
  unfold codeF at h
  simp only [Bool.cond_eq_ite] at h
  split at h
  · cases h; exact .refl
  · cases h; exact .refl
  · cases h; exact .refl
  · cases h; exact .refl
  · split at h
    · cases h
    · rename_i hr
      cases h
      exact evReg_lg hG hr
  · split at h
    · rename_i h1
      exact (hc _ _ _ _ _ _ _ _ _ h1).trans (hc _ _ _ _ _ _ _ _ _ h)
    · exact hc _ _ _ _ _ _ _ _ _ h
  · split at h
    · exact hc _ _ _ _ _ _ _ _ _ h
    · exact hc _ _ _ _ _ _ _ _ _ h
    · cases h
  · split at h
    · rename_i h1
      split at h <;> cases h <;> exact hc _ _ _ _ _ _ _ _ _ h1
    · exact hc _ _ _ _ _ _ _ _ _ h
  · split at h
    · rename_i h1
      exact (hc _ _ _ _ _ _ _ _ _ h1).trans (hc _ _ _ _ _ _ _ _ _ h)
    · exact hc _ _ _ _ _ _ _ _ _ h
  · split at h
    · cases h
    · exact hc _ _ _ _ _ _ _ _ _ h
  · split at h
    · cases h
    · unfold rangeE at h
      split at h
      · split at h
        · cases h
        rename_i h1
        split at h
        · cases h
        rename_i h2
        split at h
        · cases h
        rename_i h3
        have h4 := ((newO_lg h1).trans (newO_lg h2)).trans (hG.call _ _ _ _ _ h3)
        split at h
        · split at h
          · cases h
          · split at h
            · cases h
            rename_i h5
            unfold jumpE at h
            split at h <;> cases h <;> exact h4.trans (putO_lg h5)
        · cases h
      · cases h
  · cases h
omit hG in
theorem shutE_lg : ∀ {l : List Nat} {st st' : St}, shutE l st = some st' → Lg st st'
  | [], st, st', h => by simp only [shutE, Option.some.injEq] at h; subst h; exact .refl
  | d :: ds, st, st', h => by
    simp only [shutE] at h
    split at h
    · split at h
      · cases h
      rename_i h1
      exact (putO_lg h1).trans (shutE_lg h)
    · cases h
theorem callF_lg {f : Nat} {args : List Value} {v : Value} {st st' : St} (h : callF C L f args st = some (v, st')) : Lg st st' := by
  unfold callF at h
  split at h
  · cases h
  split at h
  · unfold knownE at h
    split at h
    · cases h; exact .refl
    · cases h
  unfold callB at h
  split at h
  · cases h
  split at h
  · cases h
  split at h
  · cases h
  split at h
  · cases h
  rename_i h1
  split at h
  · cases h
  · split at h
    · cases h
    rename_i h2
    split at h
    · cases h
    · cases h
      exact (hG.code _ _ _ _ _ _ _ _ _ h1).trans (shutE_lg h2)
end
theorem lv_lg (C : Cx) : ∀ n, LgL (lv C n)
  | 0 => ⟨fun _ _ _ _ _ h => (by cases h), fun _ _ _ _ _ _ _ _ _ h => (by cases h)⟩
  | n + 1 => ⟨fun _ _ _ _ _ h => callF_lg (lv_lg C n) h, fun _ _ _ _ _ _ _ _ _ h => codeF_lg (lv_lg C n) h⟩
theorem lk_cg {s s' : Tre Value} : ∀ {xs : List Operand}, (∀ t ∈ tmpL xs, s.get t = s'.get t) → ∀ x ∈ xs, lk s x = lk s' x
  | [], _, x, hx => by cases hx
  | y :: ys, h, x, hx => by
    rcases List.mem_cons.1 hx with rfl | hx
    · cases x with
      | tmp t => exact h t (by simp [tmpL])
      | _ => rfl
    · exact lk_cg (xs := ys) (fun t ht => h t (by cases y <;> simp [tmpL, ht])) x hx
theorem lks_cg {s s' : Tre Value} : ∀ {xs : List Operand}, (∀ x ∈ xs, lk s x = lk s' x) → lks s xs = lks s' xs
  | [], _ => rfl
  | x :: xs, h => by
    simp only [lks]
    rw [h x List.mem_cons_self, lks_cg fun y hy => h y (List.mem_cons_of_mem _ hy)]
theorem lkp_cg {s s' : Tre Value} : ∀ {xs : List (Nat × Operand)}, (∀ x ∈ xs.map (·.2), lk s x = lk s' x) → lkp s xs = lkp s' xs
  | [], _ => rfl
  | (i, x) :: xs, h => by
    simp only [lkp]
    rw [h x (by simp), lkp_cg fun y hy => h y (by simp only [List.map_cons]; exact List.mem_cons_of_mem _ hy)]
theorem evBd_cg {s s' : Tre Value} {x : Option Operand} (h : ∀ y ∈ optL x, lk s y = lk s' y) (n d : Nat) : evBd x s n d = evBd x s' n d := by
  cases x with
  | none => rfl
  | some x => simp only [evBd]; rw [h x (by simp [optL])]
theorem stepO_cg {C : Cx} {L : Lv} {o : Oper} {s s' : Tre Value} {st : St} (h : ∀ x ∈ opsL o.op, lk s x = lk s' x) : stepO C L o s st = stepO C L o s' st := by
  unfold stepO
  generalize o.op = op at *
  cases op
  case call c =>
    obtain ⟨callee, xs, ts⟩ := c
    cases callee with
    | value f =>
      have h1 := h f (by simp [opsL])
      have h2 : lks s xs.toList = lks s' xs.toList := lks_cg fun x hx => h x (by simp only [opsL]; exact List.mem_cons_of_mem _ hx)
      simp only [opk, stepK, callE, h1, h2]
    | builtin b =>
      have h2 : lks s xs.toList = lks s' xs.toList := lks_cg fun x hx => h x (by simp only [opsL]; exact hx)
      cases b <;> simp only [opk, stepK, evP, ePcall, evM, eMcall, h2]
    | invoke r mth => simp only [opk, stepK, evP, ePcall]
  case slice t x lo hi mx =>
    have h1 := h x (by simp [opsL])
    have h2 : ∀ n d, evBd lo s n d = evBd lo s' n d := evBd_cg fun y hy => h y (by simp [opsL, hy])
    have h3 : ∀ n d, evBd hi s n d = evBd hi s' n d := evBd_cg fun y hy => h y (by simp [opsL, hy])
    have h4 : ∀ n d, evBd mx s n d = evBd mx s' n d := evBd_cg fun y hy => h y (by simp [opsL, hy])
    cases mx with
    | none => simp only [opk, stepK, evP, evSlice, h1, h2, h3, h4]
    | some mx => simp only [opk, stepK, evP, evSlice, h1, h2, h3, h4]
  case build t parts =>
    have h1 : lkp s parts.toList = lkp s' parts.toList := lkp_cg h
    simp only [opk, stepK, evP, evBuild, h1]
  case buildSlice t n parts =>
    have h1 : lkp s parts.toList = lkp s' parts.toList := lkp_cg h
    simp only [opk, stepK, evM, eMbs, h1]
  case makeFunc fn f c =>
    have h1 : lks s f.toList = lks s' f.toList := lks_cg fun x hx => h x (by simp only [opsL]; exact List.mem_append_left _ hx)
    have h2 : lks s c.toList = lks s' c.toList := lks_cg fun x hx => h x (by simp only [opsL]; exact List.mem_append_right _ hx)
    simp only [opk, stepK, evP, ePfun, h1, h2]
  all_goals
    simp only [opsL, List.mem_cons, List.not_mem_nil, or_false, forall_eq_or_imp, forall_eq, false_implies, implies_true] at h
    simp only [opk, stepK, evP, evL, evM, callE, ePpick, ePnil, ePbin, ePun, ePconv, ePfa, ePfld, ePia, ePix, ePex, eLload, eLlook, eMalloc, eMbox, eMms, eMmm, eMst, eMmu, eMme, eMes, h]
theorem wantV_cg {ops : List Oper} {o : Oper} {s s' : Tre Value} (h : ∀ t ∈ gslot ops o, s.get t = s'.get t) : wantV ops s o = wantV ops s' o := by
  unfold wantV
  unfold gslot at h
  split
  · rfl
  · rename_i g b hg
    rw [hg] at h
    simp only at h
    split
    · rfl
    · rename_i og hog
      rw [hog] at h
      simp only at h
      split
      · rfl
      · rename_i t ht
        rw [ht] at h
        simp only at h
        rw [h t (by simp)]
end
end Go.Ev
