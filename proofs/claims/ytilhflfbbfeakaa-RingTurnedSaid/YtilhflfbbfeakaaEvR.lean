/- The machine for closed calls: the memory of operations that may come in any order. -/
import Derived.Test.YtilhflfbbfeakaaEvL
import Derived.Test.YtilhflfbbfeakaaEv6
namespace Go.Ev
open Go Go.RowKit Go.Tl
set_option linter.unusedVariables false
set_option linter.unusedSimpArgs false
noncomputable section
open Classical in
def gG (m0 : Tre MO) (d : Nat → Prop) : List RE → Nat → Option MO
  | [], j => m0.get j
  | x :: r, j => if d x.k then (match lookL x.dl j with | some o => some o | none => gG m0 d r j) else gG m0 d r j
def Fresh (m0 : Tre MO) : List RE → Prop
  | [] => True
  | x :: r => Fresh m0 r ∧ (x.e = false → ∀ j o, lookL x.dl j = some o → aG m0 r j = none)
section
variable {m0 : Tre MO} {d : Nat → Prop}
theorem gG_none {j : Nat} : ∀ {r : List RE}, aG m0 r j = none → gG m0 d r j = none
  | [], h => h
  | x :: r, h => by
    simp only [aG] at h
    split at h
    · cases h
    rename_i hl
    simp only [gG, hl, gG_none h, ite_self]
theorem Fresh.tail : ∀ {nw r : List RE}, Fresh m0 (nw ++ r) → Fresh m0 r
  | [], r, h => h
  | x :: nw, r, h => Fresh.tail (nw := nw) h.1
theorem viewT_sub {j : Nat} {o : MO} {hv : Nat} {b : Bool} : ∀ {r : List RE}, Fresh m0 r → (∀ x ∈ r, x.e = false → bt hv x.k = true → d x.k) → (∀ x ∈ r, x.e = true → (b = true ↔ d x.k)) → (viewT m0 r hv b).get j = some o → gG m0 d r j = some o
  | [], _, _, _, h => h
  | x :: r, hf, hA, hE, h => by
    have ih : (viewT m0 r hv b).get j = some o → gG m0 d r j = some o := viewT_sub hf.1 (fun y hy => hA y (List.mem_cons_of_mem _ hy)) (fun y hy => hE y (List.mem_cons_of_mem _ hy))
    simp only [viewT] at h
    simp only [gG]
    cases hi : cond x.e b (bt hv x.k) with
    | true =>
      have hd : d x.k := by
        cases he : x.e with
        | true => rw [he] at hi; exact (hE x List.mem_cons_self he).1 hi
        | false => rw [he] at hi; exact hA x List.mem_cons_self he hi
      rw [hi] at h
      simp only [cond_true, setL_get] at h
      rw [if_pos hd]
      split at h
      · rename_i hl; rw [hl]; exact h
      · rename_i hl; rw [hl]; exact ih h
    | false =>
      rw [hi] at h
      simp only [cond_false] at h
      split
      · rename_i hd
        have he : x.e = false := by
          cases he : x.e with
          | false => rfl
          | true =>
            rw [he] at hi
            simp only [cond_true] at hi
            have := (hE x List.mem_cons_self he).2 hd
            rw [hi] at this
            cases this
        split
        · rename_i o' hl
          have h1 := gG_none (d := d) (hf.2 he j o' hl)
          rw [ih h] at h1
          cases h1
        · exact ih h
      · exact ih h
theorem gG_newer {j : Nat} {o : MO} : ∀ {nw r : List RE}, Fresh m0 (nw ++ r) → (∀ x ∈ nw, d x.k → x.e = false) → gG m0 d r j = some o → gG m0 d (nw ++ r) j = some o
  | [], r, _, _, h => h
  | x :: nw, r, hf, hn, h => by
    have ih := gG_newer (nw := nw) hf.1 (fun y hy => hn y (List.mem_cons_of_mem _ hy)) h
    simp only [List.cons_append, gG]
    split
    · rename_i hd
      split
      · rename_i o' hl
        have h1 : gG m0 d (nw ++ r) j = none := gG_none (d := d) (hf.2 (hn x List.mem_cons_self hd) j o' hl)
        rw [ih] at h1
        cases h1
      · exact ih
    · exact ih
theorem gG_congr {d' : Nat → Prop} {j : Nat} : ∀ {r : List RE}, (∀ x ∈ r, d x.k ↔ d' x.k) → gG m0 d r j = gG m0 d' r j
  | [], _ => rfl
  | x :: r, h => by
    simp only [gG]
    rw [gG_congr fun y hy => h y (List.mem_cons_of_mem _ hy)]
    by_cases hd : d x.k
    · rw [if_pos hd, if_pos ((h x List.mem_cons_self).1 hd)]
    · rw [if_neg hd, if_neg fun e => hd ((h x List.mem_cons_self).2 e)]
theorem gG_same {i j : Nat} {r : List RE} (h : ∀ x ∈ r, x.k ≠ i) : gG m0 (fun k => d k ∨ k = i) r j = gG m0 d r j := gG_congr fun x hx => ⟨fun hd => hd.resolve_right (h x hx), .inl⟩
theorem gG_add {e : RE} {j : Nat} : ∀ {nw r : List RE}, Fresh m0 (nw ++ e :: r) → ¬ d e.k → (∀ x ∈ nw, d x.k → x.e = false) → (∀ x ∈ nw, x.k ≠ e.k) → (∀ x ∈ r, x.k ≠ e.k) →
    gG m0 (fun k => d k ∨ k = e.k) (nw ++ e :: r) j = match lookL e.dl j with | some o => some o | none => gG m0 d (nw ++ e :: r) j
  | [], r, _, hd, _, _, hr => by
    simp only [List.nil_append, gG, or_true, if_true, if_neg hd]
    rw [gG_same hr]
  | x :: nw, r, hf, hd, hn, h1, hr => by
    have ih := gG_add (j := j) (nw := nw) hf.1 hd (fun y hy => hn y (List.mem_cons_of_mem _ hy)) (fun y hy => h1 y (List.mem_cons_of_mem _ hy)) hr
    have hx := h1 x List.mem_cons_self
    simp only [List.cons_append, gG]
    by_cases hdx : d x.k
    · rw [if_pos (.inl hdx), if_pos hdx]
      cases hl : lookL x.dl j with
      | none => exact ih
      | some o =>
        have hfr := hf.2 (hn x List.mem_cons_self hdx) j o hl
        have : lookL e.dl j = none := by
          cases hle : lookL e.dl j with
          | none => rfl
          | some o' =>
            exfalso
            have : ∀ {nw : List RE}, aG m0 (nw ++ e :: r) j = none → False := fun {nw} => by
              induction nw with
              | nil => intro h; simp only [List.nil_append, aG, hle] at h; cases h
              | cons y ys ihy =>
                intro h
                simp only [List.cons_append, aG] at h
                split at h
                · cases h
                · exact ihy h
            exact this hfr
        rw [this]
    · rw [if_neg (by rintro (h | h); exact hdx h; exact hx h), if_neg hdx]
      exact ih
theorem gG_start {j : Nat} : ∀ {r : List RE}, gG m0 (fun _ => False) r j = m0.get j
  | [] => rfl
  | x :: r => by simp only [gG, if_false]; exact gG_start
theorem gG_end {j : Nat} : ∀ {r : List RE}, (∀ x ∈ r, d x.k) → gG m0 d r j = aG m0 r j
  | [], _ => rfl
  | x :: r, h => by
    simp only [gG, aG, if_pos (h x List.mem_cons_self)]
    rw [gG_end fun y hy => h y (List.mem_cons_of_mem _ hy)]
    cases lookL x.dl j <;> rfl
theorem gG_off {j : Nat} : ∀ {r : List RE}, (∀ x ∈ r, lookL x.dl j = none) → gG m0 d r j = m0.get j
  | [], _ => rfl
  | x :: r, h => by
    simp only [gG, h x List.mem_cons_self]
    rw [gG_off fun y hy => h y (List.mem_cons_of_mem _ hy), ite_self]
theorem gG_skip {j : Nat} {r : List RE} : ∀ {nw : List RE}, (∀ x ∈ nw, d x.k → lookL x.dl j = none) → gG m0 d (nw ++ r) j = gG m0 d r j
  | [], _ => rfl
  | x :: nw, h => by
    have ih := gG_skip (r := r) (nw := nw) fun y hy => h y (List.mem_cons_of_mem _ hy)
    simp only [List.cons_append, gG]
    split
    · rename_i hd
      rw [h x List.mem_cons_self hd]
      exact ih
    · exact ih
theorem viewT_dom {j : Nat} {hv : Nat} {b : Bool} (h : dom m0 j) : ∀ {r : List RE}, dom (viewT m0 r hv b) j
  | [] => h
  | x :: r => by
    simp only [viewT]
    cases cond x.e b (bt hv x.k) with
    | true =>
      unfold dom
      rw [cond_true, setL_get]
      cases lookL x.dl j with
      | some o => exact ⟨o, rfl⟩
      | none => exact viewT_dom h
    | false => exact viewT_dom h
theorem viewT_obj {V : Tre MO} {hv : Nat} {b : Bool} {j : Nat} {o : MO} : ∀ {r : List RE}, viewOk V r hv b = true → (viewT m0 r hv b).get j = some o → m0.get j = some o ∨ objIn V o = true
  | [], _, h => .inl h
  | x :: r, hk, h => by
    simp only [viewOk, Bool.and_eq_true] at hk
    simp only [viewT] at h
    cases hi : cond x.e b (bt hv x.k) with
    | true =>
      rw [hi] at h hk
      simp only [cond_true, setL_get] at h hk
      split at h
      · rename_i o' hl
        cases h
        exact .inr (List.all_eq_true.1 hk.1 _ (lookL_mem hl))
      · exact viewT_obj hk.2 h
    | false => rw [hi] at h; exact viewT_obj hk.2 h
end
theorem reachL_spec {V V' : Tre MO} : ∀ (n : Nat) (l : List Nat) (acc : List (Nat × MO)), (∀ j o, lookL acc j = some o → V'.get j = some o ∧ V.get j = none) → ∀ j o, lookL (reachL n V V' l acc) j = some o → V'.get j = some o ∧ V.get j = none
  | 0, l, acc, h => h
  | n + 1, [], acc, h => h
  | n + 1, i :: r, acc, h => by
    simp only [reachL]
    split
    · exact reachL_spec n r acc h
    · rename_i hV
      split
      · exact reachL_spec n r acc h
      · split
        · exact reachL_spec n r acc h
        · rename_i o ho
          refine reachL_spec n _ _ (fun j x hx => ?_)
          simp only [lookL] at hx
          cases hb : Nat.beq i j with
          | true =>
            rw [hb] at hx
            have := Nat.eq_of_beq_eq_true hb
            subst this
            simp only [cond_true, Option.some.injEq] at hx
            subst hx
            exact ⟨ho, hV⟩
          | false => rw [hb] at hx; exact h j x hx
theorem dedL_spec {V' : Tre MO} : ∀ (l : List Nat) (acc : List (Nat × MO)), (∀ j o, lookL acc j = some o → V'.get j = some o) → ∀ j o, lookL (dedL V' l acc) j = some o → V'.get j = some o
  | [], acc, h => h
  | i :: r, acc, h => by
    simp only [dedL]
    split
    · exact dedL_spec r acc h
    · split
      · exact dedL_spec r acc h
      · rename_i o ho
        refine dedL_spec r _ (fun j x hx => ?_)
        simp only [lookL] at hx
        cases hb : Nat.beq i j with
        | true =>
          rw [hb] at hx
          have := Nat.eq_of_beq_eq_true hb
          subst this
          simp only [cond_true, Option.some.injEq] at hx
          subst hx
          exact ho
        | false => rw [hb] at hx; exact h j x hx
theorem dedL_keep {V' : Tre MO} : ∀ (l : List Nat) (acc : List (Nat × MO)) (j : Nat), (lookL acc j).isSome = true → (lookL (dedL V' l acc) j).isSome = true
  | [], acc, j, h => h
  | i :: r, acc, j, h => by
    simp only [dedL]
    split
    · exact dedL_keep r acc j h
    · split
      · exact dedL_keep r acc j h
      · refine dedL_keep r _ j ?_
        simp only [lookL]
        cases Nat.beq i j with
        | true => rfl
        | false => exact h
theorem dedL_cov {V' : Tre MO} : ∀ (l : List Nat) (acc : List (Nat × MO)) (j : Nat), j ∈ l → V'.get j ≠ none → (lookL (dedL V' l acc) j).isSome = true
  | i :: r, acc, j, hj, hv => by
    simp only [dedL]
    rcases List.mem_cons.1 hj with rfl | hj
    · split
      · rename_i hl; exact dedL_keep r acc j (by rw [hl]; rfl)
      · split
        · rename_i hn; exact absurd hn hv
        · exact dedL_keep r _ j (by simp [lookL])
    · split
      · exact dedL_cov r acc j hj hv
      · split
        · exact dedL_cov r acc j hj hv
        · exact dedL_cov r _ j hj hv
def cutS (s : Tre Value) : List Nat → Tre Value
  | [] => .e
  | t :: ts => (cutS s ts).ins (s.get t) t
theorem cutS_get (s : Tre Value) : ∀ (l : List Nat) (t : Nat), (cutS s l).get t = if t ∈ l then s.get t else none
  | [], t => by simp [cutS, Tre.get_e]
  | i :: r, t => by
    simp only [cutS]
    obtain ⟨h1, h2⟩ := Tre.ins_get (s.get i) (cutS s r) i
    by_cases hj : t = i
    · subst hj; rw [h1]; simp
    · rw [h2 t hj, cutS_get s r t]; simp [hj]
theorem Fresh.key {m0 : Tre MO} {j : Nat} {o : MO} {e : RE} {r : List RE} (hl : lookL e.dl j = some o) : ∀ {nw : List RE}, Fresh m0 (nw ++ e :: r) → ∀ x ∈ nw, x.e = false → lookL x.dl j = none
  | y :: ys, hf, x, hx, he => by
    rcases List.mem_cons.1 hx with rfl | hx
    · cases h : lookL x.dl j with
      | none => rfl
      | some o' =>
        exfalso
        have h0 := hf.2 he j o' h
        have : ∀ {nw : List RE}, aG m0 (nw ++ e :: r) j = none → False := fun {nw} => by
          induction nw with
          | nil => intro h; simp only [List.nil_append, aG, hl] at h; cases h
          | cons y ys ihy =>
            intro h
            simp only [List.cons_append, aG] at h
            split at h
            · cases h
            · exact ihy h
        exact this h0
    · exact Fresh.key hl (nw := ys) hf.1 x hx he
structure PFact (C : Cx) (L : Lv) (N : Nat) (ops : List Oper) (m0 : Tre MO) (anc : List Nat) (e : Nat) (hasE : Bool) (sF : Tre Value) (rcF : List RE) (dn : List (Nat × Nat × Nat)) (i hv c : Nat) (rs : List (Nat × Nat × Nat)) (o : Oper) (v : Value) (dl : List (Nat × MO)) : Prop where
  op : lget ops i = some o
  run : ∃ rc nw mf n s n', parOp C L ops m0 rc mf n s o hv c = some (v, dl, n') ∧ (∀ t ∈ slotsO ops o, s.get t = sF.get t) ∧ (∀ j, mf.get j = aG m0 rc j) ∧
    rcF = nw ++ (match dl with | [] => rc | _ :: _ => ⟨i, Nat.beq c 3, dl⟩ :: rc) ∧ (∀ x ∈ nw, x.k ∈ rs.map (·.1)) ∧ (∀ x ∈ rc, x.k ∈ dn.map (·.1))
  dst : ∀ t, o.dst = some t → t < N ∧ sF.get t = some v
  sl : ∀ t ∈ slotsO ops o, ∀ x ∈ dn ++ (i, hv, c) :: rs, ∀ oj, lget ops x.1 = some oj → oj.dst = some t → preB anc x.1 i = true
  cd : parC anc e hasE (dn.any fun x => Nat.beq x.2.2 3) i hv c = true
theorem laterB_at {ops : List Oper} {t : Nat} {r : List (Nat × Nat × Nat)} (h : laterB t (peOf ops r) = true) : ∀ x ∈ r, ∀ o, lget ops x.1 = some o → o.dst ≠ some t := fun x hx o ho hd => by
  have := List.all_eq_true.1 h (x, lget ops x.1) (List.mem_map.2 ⟨x, hx, rfl⟩)
  simp only [ho, hd, dstB, Nat.beq_refl, Bool.not_true, Bool.false_eq_true] at this
section
variable {C : Cx} {L : Lv} {N : Nat} {ops : List Oper} {m0 : Tre MO} {anc : List Nat} {e : Nat} {hasE : Bool} {frF : Fr} {rcF : List RE} {mfF : Tre MO} {nF : Nat}
theorem put_get {fr fr' : Fr} {d : Option Nat} {v : Value} (h : put N fr d v = some fr') : fr'.ds = fr.ds ∧ (∀ t, d = some t → t < N ∧ fr'.s.get t = some v) ∧ ∀ t, d ≠ some t → fr'.s.get t = fr.s.get t := by
  unfold put at h
  split at h
  · cases h
    exact ⟨rfl, fun t ht => (by cases ht), fun t _ => rfl⟩
  · rename_i d
    cases hb : Nat.blt d N with
    | false => rw [hb] at h; simp at h
    | true =>
      rw [hb] at h
      simp only [cond_true, fz_eq] at h
      split at h
      · cases h
      · rename_i s' hs'
        cases h
        obtain ⟨h1, h2⟩ := Tre.set_get _ _ _ _ _ hs'
        refine ⟨rfl, fun t ht => ?_, fun t ht => h2 t (fun e => ht (by rw [e]))⟩
        cases ht
        exact ⟨blt_iff' hb, h1⟩
theorem cnd {α : Type} {c : Bool} {x : Option α} {y : α} (h : cond c x none = some y) : c = true ∧ x = some y := by
  cases c with
  | true => exact ⟨rfl, h⟩
  | false => simp at h
theorem runV_spec {o : Oper} {s : Tre Value} {V mf : Tre MO} {n n' : Nat} {q : Bool} {v : Value} {dl : List (Nat × MO)} (h : runV C L ops o s V mf n q = some (v, dl, n')) :
    (∀ t ∈ slotsO ops o, ∀ x, s.get t = some x → vin 9 V x = true) ∧ ∃ st', stepO C L o s ⟨V, n, []⟩ = some (v, st') ∧ ((st'.lg = [] ∧ dl = [] ∧ vin 9 V v = true) ∨
      ((q = true → ∀ j ∈ st'.lg, V.get j = none) ∧ dl = cond q (reachL 100000 V st'.m (vids 9 v []) []) (dedL st'.m st'.lg []) ∧ vin 9 (setL dl V) v = true ∧ ∀ x ∈ dl, objIn (setL dl V) x.2 = true ∧ (V.get x.1 = none → mf.get x.1 = none))) := by
  unfold runV at h
  obtain ⟨h1, h⟩ := cnd h
  refine ⟨fun t ht x hx => ?_, ?_⟩
  · have := List.all_eq_true.1 h1 t ht
    rw [hx] at this
    exact this
  split at h
  · cases h
  rename_i v' st' hst
  rw [fz_eq] at h
  cases hlg : st'.lg with
  | nil =>
    rw [hlg] at h
    obtain ⟨h2, h⟩ := cnd h
    simp only [Option.some.injEq, Prod.mk.injEq] at h
    obtain ⟨rfl, rfl, _⟩ := h
    exact ⟨st', hst, .inl ⟨hlg, rfl, h2⟩⟩
  | cons j lg =>
    rw [hlg] at h
    obtain ⟨h2, h⟩ := cnd h
    unfold runV.runE at h
    rw [Tre.force_eq] at h
    obtain ⟨h3, h⟩ := cnd h
    simp only [Option.some.injEq, Prod.mk.injEq] at h
    obtain ⟨rfl, rfl, _⟩ := h
    simp only [Bool.and_eq_true] at h3
    refine ⟨st', hst, .inr ⟨fun hq k hk => ?_, by rw [hlg], h3.1, fun x hx => ?_⟩⟩
    · subst hq
      rw [hlg] at hk
      have := List.all_eq_true.1 h2 k hk
      simpa using this
    · have := List.all_eq_true.1 h3.2 x hx
      simp only [Bool.and_eq_true] at this
      refine ⟨this.1, fun hV => ?_⟩
      have h4 := this.2
      rw [hV] at h4
      simpa using h4
theorem runV_new {o : Oper} {s : Tre Value} {V mf : Tre MO} {n n' : Nat} {q : Bool} {v : Value} {dl : List (Nat × MO)} (h : runV C L ops o s V mf n q = some (v, dl, n')) {j : Nat} {x : MO} (hl : lookL dl j = some x) : (V.get j = none → mf.get j = none) ∧ (q = true → V.get j = none) := by
  obtain ⟨_, st', _, ⟨_, rfl, _⟩ | ⟨h1, h2, _, h4⟩⟩ := runV_spec h
  · simp [lookL] at hl
  · refine ⟨fun hV => (h4 _ (lookL_mem hl)).2 hV, fun hq => ?_⟩
    subst hq
    rw [h2] at hl
    exact (reachL_spec _ _ [] (fun j o h => by simp [lookL] at h) j x hl).2
theorem runW_spec {o : Oper} {s : Tre Value} {rc : List RE} {mf : Tre MO} {n n' hv : Nat} {b q : Bool} {v : Value} {dl : List (Nat × MO)} (h : runW C L ops m0 rc mf n s o hv b q = some (v, dl, n')) :
    viewOk (viewT m0 rc hv b) rc hv b = true ∧ runV C L ops o s (viewT m0 rc hv b) mf n q = some (v, dl, n') := by
  unfold runW at h
  rw [Tre.force_eq] at h
  exact cnd h
theorem dlq_eq {a b : List (Nat × MO)} (h : dlq a b = true) : a = b := listq_eq (fun x y h => by
  simp only [Bool.and_eq_true] at h
  obtain ⟨x1, x2⟩ := x
  obtain ⟨y1, y2⟩ := y
  simp only at h
  rw [Nat.eq_of_beq_eq_true h.1, moq_eq h.2]) h
theorem parOp_spec {o : Oper} {s : Tre Value} {rc : List RE} {mf : Tre MO} {n n' hv c : Nat} {v : Value} {dl : List (Nat × MO)} (h : parOp C L ops m0 rc mf n s o hv c = some (v, dl, n')) :
    (wantV ops s o = some false ∧ v = undef ∧ dl = []) ∨ (wantV ops s o = some true ∧
      ((c = 0 ∧ runW C L ops m0 rc mf n s o hv false true = some (v, dl, n')) ∨ (c = 1 ∧ runW C L ops m0 rc mf n s o hv true true = some (v, dl, n')) ∨
       (c = 2 ∧ runW C L ops m0 rc mf n s o hv false true = some (v, dl, n') ∧ ∃ n2, runW C L ops m0 rc mf n s o hv true true = some (v, dl, n2)) ∨ (3 ≤ c ∧ runW C L ops m0 rc mf n s o hv false false = some (v, dl, n')))) := by
  unfold parOp at h
  split at h
  · cases h
  · rename_i hw
    simp only [Option.some.injEq, Prod.mk.injEq] at h
    exact .inl ⟨hw, h.1.symm, h.2.1.symm⟩
  · rename_i hw
    refine .inr ⟨hw, ?_⟩
    split at h
    · exact .inl ⟨rfl, h⟩
    · exact .inr (.inl ⟨rfl, h⟩)
    · split at h
      · cases h
      rename_i v1 dl1 n1 h1
      split at h
      · cases h
      rename_i v2 dl2 n2 h2
      obtain ⟨h3, h⟩ := cnd h
      simp only [Option.some.injEq, Prod.mk.injEq] at h
      obtain ⟨rfl, rfl, rfl⟩ := h
      simp only [Bool.and_eq_true] at h3
      rw [← veq_eq 9 _ _ h3.1, ← dlq_eq h3.2] at h2
      exact .inr (.inr (.inl ⟨rfl, h1, n2, h2⟩))
    · rename_i c0 c1 c2
      refine .inr (.inr (.inr ⟨?_, h⟩))
      match c, c0, c1, c2 with
      | 0, h, _, _ => exact absurd rfl h
      | 1, _, h, _ => exact absurd rfl h
      | 2, _, _, h => exact absurd rfl h
      | c + 3, _, _, _ => omega
theorem parOp_new {o : Oper} {s : Tre Value} {rc : List RE} {mf : Tre MO} {n n' hv c : Nat} {v : Value} {dl : List (Nat × MO)} (h : parOp C L ops m0 rc mf n s o hv c = some (v, dl, n')) (hc : Nat.beq c 3 = false) (hc3 : c ≤ 3) {j : Nat} {x : MO} (hl : lookL dl j = some x) : mf.get j = none := by
  have key : ∀ b, runW C L ops m0 rc mf n s o hv b true = some (v, dl, n') → mf.get j = none := fun b hb => by
    have := runV_new (runW_spec hb).2 hl
    exact this.1 (this.2 rfl)
  rcases parOp_spec h with ⟨_, _, rfl⟩ | ⟨_, ⟨_, h1⟩ | ⟨_, h1⟩ | ⟨_, h1, _⟩ | ⟨h0, h1⟩⟩
  · simp [lookL] at hl
  · exact key _ h1
  · exact key _ h1
  · exact key _ h1
  · exfalso
    have : c = 3 := by omega
    subst this
    simp at hc
theorem parC_le {seen : Bool} {i hv c : Nat} (h : parC anc e hasE seen i hv c = true) : c ≤ 3 := by
  simp only [parC, Bool.and_eq_true] at h
  match c, h.2 with
  | 0, _ => omega
  | 1, _ => omega
  | 2, _ => omega
  | 3, _ => omega
  | c + 4, h => simp at h
theorem nodB_nodup : ∀ {l : List Nat}, nodB l = true → l.Nodup
  | [], _ => List.nodup_nil
  | x :: r, h => by
    simp only [nodB, Bool.and_eq_true] at h
    refine List.nodup_cons.2 ⟨fun hx => ?_, nodB_nodup h.2⟩
    have := List.all_eq_true.1 h.1 x hx
    simp at this
theorem peOf_cons {x : Nat × Nat × Nat} {r : List (Nat × Nat × Nat)} : peOf ops (x :: r) = (x, lget ops x.1) :: peOf ops r := rfl
theorem parGo_facts : ∀ {l : List (Nat × Nat × Nat)} {rc : List RE} {mf : Tre MO} {n : Nat} {fr : Fr} {dn : List (Nat × Nat × Nat)} {dd : List (Nat × Nat)}, parGo C L N ops m0 l rc mf n fr = some (frF, rcF, mfF, nF) →
    parS anc ops e hasE dd (dn.any fun x => Nat.beq x.2.2 3) (peOf ops l) = true → (∀ x ∈ dn, ∀ o t, lget ops x.1 = some o → o.dst = some t → (x.1, t) ∈ dd) → (∀ j, mf.get j = aG m0 rc j) → Fresh m0 rc → (∀ x ∈ rc, x.k ∈ dn.map (·.1)) → (∀ x ∈ rc, x.e = true → x.k = e ∧ hasE = true) →
    (∃ nw, rcF = nw ++ rc ∧ ∀ x ∈ nw, x.k ∈ l.map (·.1)) ∧ Fresh m0 rcF ∧ (∀ x ∈ rcF, x.e = true → x.k = e ∧ hasE = true) ∧ frF.ds = fr.ds ∧ (∀ t, laterB t (peOf ops l) = true → frF.s.get t = fr.s.get t) ∧
    (∀ l1 i hv c l2, l = l1 ++ (i, hv, c) :: l2 → ∃ o v dl, PFact C L N ops m0 anc e hasE frF.s rcF (dn ++ l1) i hv c l2 o v dl) := by
  intro l
  induction l with
  | nil =>
    intro rc mf n fr dn dd h hS hd hm hf hk he
    simp only [parGo, Option.some.injEq, Prod.mk.injEq] at h
    obtain ⟨rfl, rfl, _, _⟩ := h
    exact ⟨⟨[], rfl, fun x hx => by cases hx⟩, hf, he, rfl, fun _ _ => rfl, fun l1 i hv c l2 hl => by simp at hl⟩
  | cons y rest ih =>
    intro rc mf n fr dn dd h hS hd hm hf hk he
    obtain ⟨i, hv, c⟩ := y
    simp only [parGo] at h
    split at h
    · cases h
    rename_i o ho
    split at h
    · cases h
    rename_i v dl n' hp
    split at h
    · cases h
    rename_i fr' hfr
    obtain ⟨p1, p2, p3⟩ := put_get hfr
    rw [peOf_cons, ho] at hS
    simp only [parS, Bool.and_eq_true] at hS
    obtain ⟨⟨⟨s1, s2⟩, s3⟩, s4⟩ := hS
    have hany : ((dn ++ [(i, hv, c)]).any fun x => Nat.beq x.2.2 3) = ((dn.any fun x => Nat.beq x.2.2 3) || Nat.beq c 3) := by simp
    rw [← hany] at s4
    have hd' : ∀ x ∈ dn ++ [(i, hv, c)], ∀ o' t, lget ops x.1 = some o' → o'.dst = some t → (x.1, t) ∈ (match o.dst with | none => dd | some d => (i, d) :: dd) := fun x hx o' t ho' ht => by
      rcases List.mem_append.1 hx with hx | hx
      · have := hd x hx o' t ho' ht
        cases o.dst with
        | none => exact this
        | some d => exact List.mem_cons_of_mem _ this
      · rw [List.mem_singleton] at hx
        subst hx
        rw [ho] at ho'
        cases ho'
        rw [ht]
        exact List.mem_cons_self
    have hle := parC_le s3
    have hrest : ∃ rc' mf', parGo C L N ops m0 rest rc' mf' (match dl with | [] => n | _ :: _ => n') fr' = some (frF, rcF, mfF, nF) ∧ rc' = (match dl with | [] => rc | _ :: _ => ⟨i, Nat.beq c 3, dl⟩ :: rc) ∧ (∀ j, mf'.get j = aG m0 rc' j) ∧ Fresh m0 rc' ∧ (∀ x ∈ rc', x.k ∈ (dn ++ [(i, hv, c)]).map (·.1)) ∧ (∀ x ∈ rc', x.e = true → x.k = e ∧ hasE = true) := by
      split at h
      · exact ⟨rc, mf, h, rfl, hm, hf, fun x hx => by have := hk x hx; rw [List.map_append]; exact List.mem_append_left _ this, he⟩
      · rename_i x0 dl0
        simp only [Tre.force_eq] at h
        refine ⟨_, _, h, rfl, fun j => by rw [setL_get, aG, hm], ⟨hf, fun hc j ob hl => ?_⟩, fun x hx => ?_, fun x hx hxe => ?_⟩
        · rw [← hm]; exact parOp_new hp hc hle hl
        · rw [List.map_append]
          rcases List.mem_cons.1 hx with rfl | hx
          · exact List.mem_append_right _ (by simp)
          · exact List.mem_append_left _ (hk x hx)
        · rcases List.mem_cons.1 hx with rfl | hx
          · have hc3 : c = 3 := Nat.eq_of_beq_eq_true hxe
            subst hc3
            simp only [parC, Bool.and_eq_true] at s3
            exact ⟨Nat.eq_of_beq_eq_true s3.2.1, s3.2.2⟩
          · exact he x hx hxe
    obtain ⟨rc', mf', h', hrc, hm', hf', hk', he'⟩ := hrest
    obtain ⟨⟨nw, g1, g2⟩, g3, g4, g5, g6, g7⟩ := ih h' s4 hd' hm' hf' hk' he'
    refine ⟨?_, g3, g4, by rw [g5, p1], fun t ht => ?_, fun l1 i' hv' c' l2 hl => ?_⟩
    · rw [g1, hrc]
      cases dl with
      | nil => exact ⟨nw, rfl, fun x hx => by simp only [List.map_cons]; exact List.mem_cons_of_mem _ (g2 x hx)⟩
      | cons x0 dl0 =>
        refine ⟨nw ++ [⟨i, Nat.beq c 3, x0 :: dl0⟩], by simp, fun x hx => ?_⟩
        simp only [List.map_cons]
        rcases List.mem_append.1 hx with hx | hx
        · exact List.mem_cons_of_mem _ (g2 x hx)
        · rw [List.mem_singleton] at hx; subst hx; exact List.mem_cons_self
    · rw [peOf_cons, ho] at ht
      simp only [laterB, List.all_cons, Bool.and_eq_true] at ht
      rw [g6 t ht.2]
      refine p3 t (fun e => ?_)
      have := ht.1
      rw [e] at this
      simp [dstB] at this
    · cases l1 with
      | nil =>
        simp only [List.nil_append, List.cons.injEq, Prod.mk.injEq] at hl
        obtain ⟨⟨rfl, rfl, rfl⟩, rfl⟩ := hl
        have hlater : ∀ t ∈ slotsO ops o, dstB t o.dst = false ∧ laterB t (peOf ops rest) = true := fun t ht => by
          have := List.all_eq_true.1 s1 t ht
          simp only [Bool.and_eq_true, Bool.not_eq_true'] at this
          exact ⟨this.1.2, this.2⟩
        refine ⟨o, v, dl, ho, ⟨rc, nw, mf, n, fr.s, n', hp, fun t ht => ?_, hm, by rw [g1, hrc]; cases dl <;> rfl, g2, by simpa using hk⟩, fun t ht => ?_, fun t ht x hx oj hoj htj => ?_, by simpa using s3⟩
        · obtain ⟨q1, q2⟩ := hlater t ht
          rw [g6 t q2, p3 t (fun e => by rw [e] at q1; simp [dstB] at q1)]
        · obtain ⟨q1, q2⟩ := p2 t ht
          refine ⟨q1, ?_⟩
          rw [ht] at s2
          rw [g6 t s2, q2]
        · simp only [List.append_nil] at hx
          rcases List.mem_append.1 hx with hx | hx
          · have h1 := List.all_eq_true.1 s1 t ht
            simp only [Bool.and_eq_true] at h1
            have h2 := List.all_eq_true.1 h1.1.1 _ (hd x hx oj t hoj htj)
            simpa using h2
          · rcases List.mem_cons.1 hx with rfl | hx
            · simp only at hoj
              rw [ho] at hoj
              cases hoj
              have := (hlater t ht).1
              rw [htj] at this
              simp [dstB] at this
            · exact absurd htj (laterB_at (hlater t ht).2 x hx oj hoj)
      | cons z l1 =>
        simp only [List.cons_append, List.cons.injEq] at hl
        obtain ⟨rfl, hl⟩ := hl
        obtain ⟨o', v', dl', hP⟩ := g7 l1 i' hv' c' l2 hl
        refine ⟨o', v', dl', ?_⟩
        simpa using hP
end
end
end Go.Ev
