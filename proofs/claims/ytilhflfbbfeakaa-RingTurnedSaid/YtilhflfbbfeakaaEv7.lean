/- The machine for closed calls is right: regions, code, functions. -/
import Derived.Test.YtilhflfbbfeakaaEvR
namespace Go.Ev
open Go Go.RowKit Go.Tl
set_option linter.unusedVariables false
set_option linter.unusedSimpArgs false
noncomputable section
section
variable {C : Cx} {L : Lv} {ρ : Nat → Rb} {st st' : St} {w : World} {w0 : W0} {a : Act} {o : Oper} {s : Tre Value} {N : Nat}
theorem stepO_run (X : COk C) (hL : LOk C.P (CPC C) L) (h0 : w0.CP = CPC C) {v : Value} (h : stepO C L o s st = some (v, st')) (H : MS w0 ρ st.m w) (hs : SR ρ (dom st.m) s a.tmps) {K : Act → World → Prop} {Q : Exit → Act → World → Prop}
    (hK : ∀ ρ' tv w', MS w0 ρ' st'.m w' → Le ρ st.m ρ' st'.m → VR ρ' (dom st'.m) v tv → K (a.put o.dst tv) w') : wpX C.P o a w K Q := by
  unfold stepO stepK at h
  split at h
  · unfold withSt at h
    split at h
    · cases h
    rename_i v' hv
    cases h
    obtain ⟨tv, h1, h2⟩ := evP_run X.toTM.toTX hv H hs
    unfold wpX
    rw [h2 w, Oper.uponIn_value]
    exact hK ρ tv w H .refl h1
  · unfold withSt1 at h
    split at h
    · cases h
    rename_i v' i hv
    cases h
    obtain ⟨ob, h1, h2, h3⟩ := evL_run X.toTM (ρ := ρ) hv hs (fun _ _ => rfl)
    obtain ⟨tv, h4, h5⟩ := h3 w (H.obj _ _ h1)
    unfold wpX
    rw [h5, Oper.uponIn_value]
    exact hK ρ tv w H .refl h4
  · obtain ⟨ρ', tv, w', nx, h1, h2, h3, h4, h5⟩ := evM_run X.toTM h H hs
    unfold wpX
    rw [h1]
    rcases h2 with rfl | ⟨rfl, rfl⟩
    · rw [Oper.uponIn_value]; exact hK ρ' tv w' h3 h4 h5
    · rw [Oper.uponIn_skip]; exact hK ρ' undef w' h3 h4 h5
  · exact callE_run hL h0 h H hs hK
theorem evOps_run (X : COk C) (hL : LOk C.P (CPC C) L) (h0 : w0.CP = CPC C) {ops : Array Oper} {ρ0 : Nat → Rb} {m0 : Tre MO} {fr' : Fr} : ∀ {l : List Oper} {fr : Fr} {st : St} {ρ : Nat → Rb} {a : Act} {w : World}, evOps C L N ops.toList l fr st = some (fr', st') → MS w0 ρ st.m w → FS ρ (dom st.m) N fr a → Le ρ0 m0 ρ st.m →
    wpLX C.P ops (KQ w0 ρ0 m0 N .normal fr' st') l a w
  | [], fr, st, ρ, a, w, h, H, F, hLe => by
    simp only [evOps, Option.some.injEq, Prod.mk.injEq] at h
    obtain ⟨rfl, rfl⟩ := h
    exact ⟨rfl, ρ, H, hLe, F⟩
  | o :: rest, fr, st, ρ, a, w, h, H, F, hLe => by
    simp only [evOps] at h
    simp only [wpLX]
    split at h
    · cases h
    · rename_i hw
      rw [if_neg (by rw [wantV_spec hw F.sl]; simp)]
      split at h
      · cases h
      · rename_i fr1 hf
        exact evOps_run X hL h0 h H (put_fs hf F undef_vr) hLe
    · rename_i hw
      rw [if_pos (wantV_spec hw F.sl)]
      split at h
      · cases h
      rename_i v st1 hv
      split at h
      · cases h
      rename_i fr1 hf
      exact stepO_run X hL h0 hv H F.sl (fun ρ' tv w' H' L' hv' => evOps_run X hL h0 h H' (put_fs hf (F.mono L') hv') (hLe.trans L'))
theorem MS.congr {m m' : Tre MO} (H : MS w0 ρ m w) (h : ∀ j, m.get j = m'.get j) : MS w0 ρ m' w := by
  have hd : dom m = dom m' := by funext j; unfold dom; rw [h j]
  refine ⟨H.os, H.tape, H.output, H.size, H.old, fun i o hi => ?_, fun i o hi => H.cp i o (by rw [h]; exact hi), fun i o hi => H.lo i o (by rw [h]; exact hi), fun i j o o' hi hj => H.inj i j o o' (by rw [h]; exact hi) (by rw [h]; exact hj)⟩
  rw [← hd]
  exact H.obj i o (by rw [h]; exact hi)
theorem runV_run (X : COk C) (hL : LOk C.P (CPC C) L) (hG : LgL L) (h0 : w0.CP = CPC C) {ops : List Oper} {V mf M : Tre MO} {n n' : Nat} {q : Bool} {v : Value} {dl : List (Nat × MO)} (h : runV C L ops o s V mf n q = some (v, dl, n')) (H : MS w0 ρ M w)
    (hV : ∀ j x, V.get j = some x → M.get j = some x) (hobj : ∀ j x, V.get j = some x → OR ρ (dom V) w j x) (hfr : ∀ j x, lookL dl j = some x → V.get j = none → M.get j = none)
    (hs : ∀ t ∈ slotsO ops o, ∀ x, s.get t = some x → ∃ u, a.tmps[t]? = some u ∧ VR ρ (dom M) x u) {K : Act → World → Prop} {Q : Exit → Act → World → Prop}
    (hK : ∀ ρ' M' tv w', MS w0 ρ' M' w' → Le ρ M ρ' M' → (∀ j, M'.get j = match lookL dl j with | some x => some x | none => M.get j) → VR ρ' (dom M') v tv → K (a.put o.dst tv) w') : wpX C.P o a w K Q := by
  obtain ⟨hsl, st', hst, hres⟩ := runV_spec h
  have hst2 : stepO C L o (cutS s (slotsO ops o)) ⟨V, n, []⟩ = some (v, st') := by
    rw [← hst]
    refine (stepO_cg (lk_cg fun t ht => ?_)).symm
    rw [cutS_get, if_pos (show t ∈ slotsO ops o from List.mem_append_right _ ht)]
  have hSR : SR ρ (dom V) (cutS s (slotsO ops o)) a.tmps := fun t x hx => by
    rw [cutS_get] at hx
    split at hx
    · rename_i ht
      obtain ⟨u, h1, h2⟩ := hs t ht x hx
      exact ⟨u, h1, h2.shrink 9 (hsl t ht x hx)⟩
    · cases hx
  have hFF : ∀ b, (w0.F b ∨ ∃ i x, M.get i = some x ∧ x.live = true ∧ V.get i = none ∧ (ρ i).b = b) → b < w.heap.size := fun b hb => by
    rcases hb with hb | ⟨i, x, hi, hx, _, rfl⟩
    · exact Nat.lt_of_lt_of_le (w0.hF b hb) H.size
    · exact (H.obj i x hi).lt hx
  let w1 : W0 := { w := w, CP := w0.CP, F := fun b => w0.F b ∨ ∃ i x, M.get i = some x ∧ x.live = true ∧ V.get i = none ∧ (ρ i).b = b, hF := hFF }
  have H1 : MS w1 ρ V w := by
    refine ⟨rfl, rfl, rfl, Nat.le_refl _, fun _ _ => rfl, hobj, fun i x hi => H.cp i x (hV i x hi), fun i x hi hx hb => ?_, fun i j x y hi hj => H.inj i j x y (hV i x hi) (hV j y hj)⟩
    rcases hb with hb | ⟨i', x', hi', hx', hn, he⟩
    · exact H.lo i x (hV i x hi) hx hb
    · have := H.inj i' i x' x hi' (hV i x hi) hx' hx he
      subst this
      rw [hi] at hn
      cases hn
  have hlg := stepO_lg hG hst
  refine stepO_run X hL (w0 := w1) h0 hst2 H1 hSR (fun ρ' tv w' H' hLe hv => ?_)
  obtain ⟨l, hl1, hl2⟩ := hlg
  simp only [List.append_nil] at hl1
  have U : ∀ j x, V.get j = some x → lookL dl j = none → st'.m.get j = some x := fun j x hj hd => by
    by_cases hjl : j ∈ l
    · exfalso
      rcases hres with ⟨e, _, _⟩ | ⟨hq, e, _, _⟩
      · rw [hl1] at e; rw [e] at hjl; cases hjl
      · cases q with
        | true => have := hq rfl j (by rw [hl1]; exact hjl); rw [hj] at this; cases this
        | false =>
          obtain ⟨y, hy⟩ := (hLe j ⟨x, hj⟩).1
          have := dedL_cov (V' := st'.m) st'.lg [] j (by rw [hl1]; exact hjl) (by rw [hy]; simp)
          rw [show dl = dedL st'.m st'.lg [] from e] at hd
          rw [hd] at this
          cases this
    · rw [hl2 j hjl]; exact hj
  have U2 : ∀ j x, lookL dl j = some x → st'.m.get j = some x := fun j x hj => by
    rcases hres with ⟨_, e, _⟩ | ⟨hq, e, _, _⟩
    · rw [e] at hj; simp [lookL] at hj
    · cases q with
      | true =>
        rw [show dl = reachL 100000 V st'.m (vids 9 v []) [] from e] at hj
        exact (reachL_spec _ _ [] (fun j o h => by simp [lookL] at h) j x hj).1
      | false =>
        rw [show dl = dedL st'.m st'.lg [] from e] at hj
        exact dedL_spec _ [] (fun j o h => by simp [lookL] at h) j x hj
  have U4 : ∀ j x, lookL dl j = some x → objIn (setL dl V) x = true := fun j x hj => by
    rcases hres with ⟨_, e, _⟩ | ⟨_, _, _, h4⟩
    · rw [e] at hj; simp [lookL] at hj
    · exact (h4 _ (lookL_mem hj)).1
  have U5 : vin 9 (setL dl V) v = true := by
    rcases hres with ⟨_, e, h3⟩ | ⟨_, _, h3, _⟩
    · rw [e]; exact h3
    · exact h3
  have hV2 : ∀ j, dom (setL dl V) j ↔ (∃ x, lookL dl j = some x) ∨ dom V j := fun j => by
    unfold dom
    rw [setL_get]
    cases lookL dl j with
    | some x => exact ⟨fun _ => .inl ⟨x, rfl⟩, fun _ => ⟨x, rfl⟩⟩
    | none => exact ⟨fun h => .inr h, fun h => h.elim (fun ⟨x, hx⟩ => by cases hx) id⟩
  obtain ⟨ρ2, r1, r2⟩ : ∃ ρ2 : Nat → Rb, (∀ j, dom (setL dl V) j → ρ2 j = ρ' j) ∧ (∀ j, dom M j → ρ2 j = ρ j) := by
    classical
    refine ⟨fun j => if dom (setL dl V) j then ρ' j else ρ j, fun j hj => if_pos hj, fun j hj => ?_⟩
    by_cases hd : dom (setL dl V) j
    · simp only [if_pos hd]
      cases hVj : V.get j with
      | some x => exact (hLe j ⟨x, hVj⟩).2
      | none =>
        rcases (hV2 j).1 hd with ⟨x, hx⟩ | ⟨x, hx⟩
        · obtain ⟨y, hy⟩ := hj
          rw [hfr j x hx hVj] at hy
          cases hy
        · rw [hVj] at hx; cases hx
    · simp only [if_neg hd]
  have hM2 : ∀ j, (setL dl M).get j = match lookL dl j with | some x => some x | none => M.get j := fun j => setL_get _ _ _
  have hdM : ∀ j, dom M j → dom (setL dl M) j := fun j ⟨x, hx⟩ => by
    unfold dom
    rw [hM2]
    cases lookL dl j with
    | some y => exact ⟨y, rfl⟩
    | none => exact ⟨x, hx⟩
  have hd2 : ∀ j, dom (setL dl V) j → dom (setL dl M) j ∧ ρ2 j = ρ' j := fun j hj => ⟨by
    rcases (hV2 j).1 hj with ⟨x, hx⟩ | ⟨x, hx⟩
    · exact ⟨x, by rw [hM2, hx]⟩
    · exact hdM j ⟨x, hV j x hx⟩, r1 j hj⟩
  have hdV : ∀ j, dom V j → dom (setL dl M) j ∧ ρ2 j = ρ j := fun j ⟨x, hx⟩ => ⟨hdM j ⟨x, hV j x hx⟩, r2 j ⟨x, hV j x hx⟩⟩
  have hLe2 : Le ρ M ρ2 (setL dl M) := fun j hj => ⟨hdM j hj, r2 j hj⟩
  have hcase : ∀ j x, (setL dl M).get j = some x → (dom (setL dl V) j ∧ st'.m.get j = some x) ∨ (V.get j = none ∧ lookL dl j = none ∧ M.get j = some x) := fun j x hj => by
    rw [hM2] at hj
    cases hl : lookL dl j with
    | some y =>
      rw [hl] at hj
      simp only [Option.some.injEq] at hj
      subst hj
      exact .inl ⟨(hV2 j).2 (.inl ⟨y, hl⟩), U2 j y hl⟩
    | none =>
      rw [hl] at hj
      cases hVj : V.get j with
      | none => exact .inr ⟨rfl, rfl, hj⟩
      | some y =>
        have := hV j y hVj
        have e : x = y := Option.some.inj (hj.symm.trans this)
        subst e
        exact .inl ⟨(hV2 j).2 (.inr ⟨x, hVj⟩), U j x hVj hl⟩
  refine hK ρ2 (setL dl M) tv w' ⟨H'.os.trans H.os, H'.tape.trans H.tape, H'.output.trans H.output, Nat.le_trans H.size H'.size, fun b hb => (H'.old b (.inl hb)).trans (H.old b hb), fun i x hi => ?_, fun i x hi => ?_, fun i x hi hx => ?_, fun i j x y hi hj hx hy he => ?_⟩ hLe2 hM2 ((hv.shrink 9 U5).mono hd2)
  · have hi' := hi
    rw [hM2] at hi'
    cases hl : lookL dl i with
    | some y =>
      rw [hl] at hi'
      simp only [Option.some.injEq] at hi'
      subst hi'
      exact ((H'.obj i y (U2 i y hl)).shrink (U4 i y hl)).mono (fun _ => r1 i ((hV2 i).2 (.inl ⟨y, hl⟩))) hd2 (fun _ => rfl)
    | none =>
      rw [hl] at hi'
      simp only at hi'
      cases hVi : V.get i with
      | some y =>
        have e : x = y := Option.some.inj (hi'.symm.trans (hV i y hVi))
        subst e
        have := OR.back (hobj i x hVi) (H'.obj i x (U i x hVi hl)) (fun _ => (hLe i ⟨x, hVi⟩).2) (fun j hj => (hLe j hj).2)
        exact this.mono (fun _ => r2 i ⟨x, hi'⟩) hdV (fun _ => rfl)
      | none => exact (H.obj i x hi').mono (fun _ => r2 i ⟨x, hi'⟩) hLe2 (fun hx => H'.old _ (.inr ⟨i, x, hi', hx, hVi, rfl⟩))
  · rcases hcase i x hi with ⟨_, h1⟩ | ⟨_, _, h1⟩
    · exact H'.cp i x h1
    · exact H.cp i x h1
  · rcases hcase i x hi with ⟨h2, h1⟩ | ⟨_, _, h1⟩
    · rw [r1 i h2]; exact fun hb => H'.lo i x h1 hx (.inl hb)
    · rw [r2 i ⟨x, h1⟩]; exact H.lo i x h1 hx
  · rcases hcase i x hi with ⟨a2, a1⟩ | ⟨a3, a4, a1⟩
    · rcases hcase j y hj with ⟨b2, b1⟩ | ⟨b3, b4, b1⟩
      · rw [r1 i a2, r1 j b2] at he
        exact H'.inj i j x y a1 b1 hx hy he
      · rw [r1 i a2, r2 j ⟨y, b1⟩] at he
        exact absurd (.inr ⟨j, y, b1, hy, b3, he.symm⟩) (H'.lo i x a1 hx)
    · rcases hcase j y hj with ⟨b2, b1⟩ | ⟨b3, b4, b1⟩
      · rw [r2 i ⟨x, a1⟩, r1 j b2] at he
        exact absurd (.inr ⟨i, x, a1, hx, a3, he⟩) (H'.lo j y b1 hy)
      · rw [r2 i ⟨x, a1⟩, r2 j ⟨y, b1⟩] at he
        exact H.inj i j x y a1 b1 hx hy he
structure PI (w0 : W0) (N : Nat) (ops : List Oper) (m0 : Tre MO) (ρs : Nat → Rb) (l : List (Nat × Nat × Nat)) (anc : List Nat) (rcF : List RE) (fr frF : Fr) (ρ : Nat → Rb) (M : Tre MO) (d : Nat → Prop) (a : Act) (w : World) : Prop where
  ms : MS w0 ρ M w
  le : Le ρs m0 ρ M
  mem : ∀ j, M.get j = gG m0 d rcF j
  size : a.tmps.size = N
  df : a.defers = fr.ds.map fun i => markD (ρs i).b
  sl : ∀ t x, frF.s.get t = some x → (∀ y ∈ l, ∀ oj, lget ops y.1 = some oj → oj.dst = some t → d y.1) → ∃ v, a.tmps[t]? = some v ∧ VR ρ (dom M) x v
  cl : ∀ i, d i → ∀ k ∈ l.map (·.1), preB anc k i = true → d k
theorem PFact_run (X : COk C) (hL : LOk C.P (CPC C) L) (hG : LgL L) (h0 : w0.CP = CPC C) {ops : Array Oper} {m m0 : Tre MO} {ρs : Nat → Rb} {ws : World} (Hs : MS w0 ρs m0 ws) {anc : List Nat} {e : Nat} {hasE : Bool} {rcF : List RE} {fr frF : Fr} {dn rs : List (Nat × Nat × Nat)} {i hv c : Nat} {v : Value} {dl : List (Nat × MO)}
    (hP : PFact C L N ops.toList m0 anc e hasE frF.s rcF dn i hv c rs o v dl) (hf : Fresh m0 rcF) (hE : ∀ x ∈ rcF, x.e = true → x.k = e ∧ hasE = true) (hnd : ((dn ++ (i, hv, c) :: rs).map (·.1)).Nodup) (hS : ∀ x ∈ dn, x.2.2 = 3 → x.1 = e)
    {d : Nat → Prop} (I : PI w0 N ops.toList m0 ρs (dn ++ (i, hv, c) :: rs) anc rcF fr frF ρ m d a w) (hd : ¬ d i) (hpre : ∀ k ∈ (dn ++ (i, hv, c) :: rs).map (·.1), preB anc k i = true → d k) {Q : Exit → Act → World → Prop} {K : Act → World → Prop}
    (hK : ∀ ρ' M' a' w', PI w0 N ops.toList m0 ρs (dn ++ (i, hv, c) :: rs) anc rcF fr frF ρ' M' (fun k => d k ∨ k = i) a' w' → K a' w') : wpOX C.P ops Q i K a w := by
  obtain ⟨rc, nw, mf, n, s1, n', hrun, hsl, hmf, hrc, hnw, hdn⟩ := hP.run
  have ho' : ops[i]? = some o := by have := hP.op; rw [lget_eq] at this; simpa using this
  have hsplit : dn.map (·.1) ++ i :: rs.map (·.1) = (dn ++ (i, hv, c) :: rs).map (·.1) := by simp
  have hnd' := hnd
  rw [← hsplit] at hnd'
  have hidn : i ∉ dn.map (·.1) := fun h => (List.nodup_append.1 hnd').2.2 i h i (by simp) rfl
  have hirs : i ∉ rs.map (·.1) := (List.nodup_cons.1 (List.nodup_append.1 hnd').2.1).1
  have hdr : ∀ k, k ∈ dn.map (·.1) → k ∈ rs.map (·.1) → False := fun k h1 h2 => (List.nodup_append.1 hnd').2.2 k h1 k (List.mem_cons_of_mem _ h2) rfl
  have hsv : ∀ t ∈ slotsO ops.toList o, ∀ x, s1.get t = some x → ∃ u, a.tmps[t]? = some u ∧ VR ρ (dom m) x u := fun t ht x hx => by
    rw [hsl t ht] at hx
    exact I.sl t x hx fun y hy oj hoj hdj => hpre y.1 (List.mem_map.2 ⟨y, hy, rfl⟩) (hP.sl t ht y hy oj hoj hdj)
  have hcut : SR ρ (dom m) (cutS s1 (gslot ops.toList o)) a.tmps := fun t x hx => by
    rw [cutS_get] at hx
    split at hx
    · rename_i ht; exact hsv t (List.mem_append_left _ ht) x hx
    · cases hx
  have hwc : wantV ops.toList (cutS s1 (gslot ops.toList o)) o = wantV ops.toList s1 o := wantV_cg fun t ht => by rw [cutS_get, if_pos ht]
  have hseen : (dn.any fun x => Nat.beq x.2.2 3) = true → e ∈ dn.map (·.1) := fun h => by
    obtain ⟨x, hx, hx3⟩ := List.any_eq_true.1 h
    exact List.mem_map.2 ⟨x, hx, hS x hx (Nat.eq_of_beq_eq_true hx3)⟩
  have hil : i ∈ (dn ++ (i, hv, c) :: rs).map (·.1) := by simp
  have hcd := hP.cd
  simp only [parC, Bool.and_eq_true] at hcd
  obtain ⟨hanc, hcd⟩ := hcd
  have hbef : c = 0 → hasE = true → ¬ d e := fun hc hh hde => by
    subst hc
    simp only [Bool.and_eq_true, Bool.or_eq_true, Bool.not_eq_true', hh, Bool.false_eq_true, false_or] at hcd
    exact hd (I.cl e hde i hil (by simpa using hcd.2))
  have hnE : ∀ x ∈ nw, d x.k → x.e = false := fun x hx hdx => by
    cases hxe : x.e with
    | false => rfl
    | true =>
      exfalso
      obtain ⟨e1, e2⟩ := hE x (by rw [hrc]; exact List.mem_append_left _ hx) hxe
      have hin := hnw x hx
      rw [e1] at hdx hin
      match c, hcd with
      | 0, hcd => exact hbef rfl e2 hdx
      | 1, hcd =>
        simp only [Bool.and_eq_true] at hcd
        exact hdr e (hseen hcd.1.1) hin
      | 2, hcd =>
        simp only [Bool.and_eq_true] at hcd
        exact hdr e (hseen hcd.1) hin
      | 3, hcd =>
        simp only [Bool.and_eq_true] at hcd
        rw [← Nat.eq_of_beq_eq_true hcd.1] at hin
        exact hirs hin
      | c + 4, hcd => simp at hcd
  have fin : ∀ ρ' M' tv w', MS w0 ρ' M' w' → Le ρ m ρ' M' → (∀ j, M'.get j = match lookL dl j with | some x => some x | none => m.get j) → VR ρ' (dom M') v tv → K (a.put o.dst tv) w' := fun ρ' M' tv w' H' hLe hM' hv' => by
    have hsz : (a.put o.dst tv).tmps.size = N := by
      have := I.size
      cases hd : o.dst <;> simp [Act.put, this]
    refine hK ρ' M' _ w' ⟨H', I.le.trans hLe, fun j => ?_, hsz, ?_, fun t x hx hw => ?_, fun k hk k' hk' hp => ?_⟩
    · rw [hM' j, I.mem j]
      cases dl with
      | nil =>
        simp only [lookL]
        rw [gG_same]
        intro x hx e1
        rw [hrc] at hx
        rcases List.mem_append.1 hx with hx | hx
        · exact hirs (e1 ▸ hnw x hx)
        · exact hidn (e1 ▸ hdn x hx)
      | cons y ys =>
        rw [hrc]
        simp only at hrc ⊢
        rw [hrc] at hf
        exact (gG_add (e := ⟨i, Nat.beq c 3, y :: ys⟩) hf hd hnE (fun x hx e1 => hirs (by have h9 := hnw x hx; rw [e1] at h9; exact h9)) (fun x hx e1 => hidn (by have h9 := hdn x hx; rw [e1] at h9; exact h9))).symm
    · have := I.df
      cases hd : o.dst <;> simp [Act.put, this]
    · by_cases ht : o.dst = some t
      · obtain ⟨q1, q2⟩ := hP.dst t ht
        rw [q2] at hx
        cases hx
        refine ⟨tv, ?_, hv'⟩
        have : t < a.tmps.size := by rw [I.size]; exact q1
        rw [ht]
        simp [Act.put, this]
      · obtain ⟨u, h1, h2⟩ := I.sl t x hx fun y hy oj hoj hdj => by
          rcases hw y hy oj hoj hdj with h | h
          · exact h
          · exfalso
            rw [h] at hoj
            have := hP.op
            rw [hoj] at this
            cases this
            exact ht hdj
        refine ⟨u, ?_, h2.mono hLe⟩
        cases hd : o.dst with
        | none => exact h1
        | some t' =>
          simp only [Act.put]
          rw [Array.getElem?_setIfInBounds_ne (fun e => ht (by rw [hd, e]))]
          exact h1
    · rcases hk with hk | rfl
      · exact .inl (I.cl k hk k' hk' hp)
      · exact .inl (hpre k' hk' hp)
  have hfrc : Fresh m0 rc := by
    rw [hrc] at hf
    cases dl with
    | nil => exact Fresh.tail hf
    | cons y ys => exact (Fresh.tail hf).1
  have hrcF : ∀ x ∈ rc, x ∈ rcF := fun x hx => by
    rw [hrc]
    cases dl with
    | nil => exact List.mem_append_right _ hx
    | cons y ys => exact List.mem_append_right _ (List.mem_cons_of_mem _ hx)
  have step : ∀ (b q : Bool) (n2 : Nat), runW C L ops.toList m0 rc mf n s1 o hv b q = some (v, dl, n2) → (∀ x ∈ rc, x.e = true → (b = true ↔ d x.k)) → wpX C.P o a w K Q := fun b q n2 hr hb => by
    obtain ⟨hk, hr⟩ := runW_spec hr
    have hA : ∀ x ∈ rc, x.e = false → bt hv x.k = true → d x.k := fun x hx _ hbt => by
      split at hanc
      · cases hanc
      rename_i mk hmk
      have hsub := Nat.eq_of_beq_eq_true hanc
      have : bt mk x.k = true := by rw [← hsub, bt_lor, hbt, Bool.true_or]
      refine hpre x.k ?_ (by unfold preB; rw [hmk]; exact this)
      rw [← hsplit]
      exact List.mem_append_left _ (hdn x hx)
    have hV : ∀ j x, (viewT m0 rc hv b).get j = some x → m.get j = some x := fun j x hx => by
      have h1 := viewT_sub (d := d) hfrc hA hb hx
      rw [I.mem j, hrc]
      rw [hrc] at hf
      cases dl with
      | nil => exact gG_newer hf hnE h1
      | cons y ys =>
        have := gG_newer (d := d) (nw := nw ++ [⟨i, Nat.beq c 3, y :: ys⟩]) (r := rc) (by simpa using hf) (fun x hx hdx => by
          rcases List.mem_append.1 hx with hx | hx
          · exact hnE x hx hdx
          · rw [List.mem_singleton] at hx; subst hx; exact absurd hdx hd) h1
        simpa using this
    refine runV_run X hL hG h0 hr I.ms hV (fun j x hx => ?_) (fun j x hx hVn => ?_) hsv fin
    · rcases viewT_obj hk hx with h | h
      · have := OR.back (Hs.obj j x h) (I.ms.obj j x (hV j x hx)) (fun _ => (I.le j ⟨x, h⟩).2) (fun k hk => (I.le k hk).2)
        exact this.mono (fun _ => (I.le j ⟨x, h⟩).2) (fun k hk => ⟨viewT_dom hk, (I.le k hk).2⟩) (fun _ => rfl)
      · exact (I.ms.obj j x (hV j x hx)).shrink h
    · have h1 := (runV_new hr hx).1 hVn
      rw [hmf j] at h1
      rw [I.mem j, hrc]
      rw [hrc] at hf
      cases dl with
      | nil => simp [lookL] at hx
      | cons y ys =>
        simp only at hf ⊢
        rw [gG_skip (fun z hz hdz => Fresh.key (e := ⟨i, Nat.beq c 3, y :: ys⟩) hx hf z hz (hnE z hz hdz))]
        simp only [gG, if_neg hd]
        exact gG_none h1
  refine ⟨o, ho', ?_⟩
  rcases parOp_spec hrun with ⟨hw, rfl, rfl⟩ | ⟨hw, hr⟩
  · rw [if_neg (by rw [wantV_spec (hwc.trans hw) hcut]; simp)]
    exact fin ρ m undef w I.ms .refl (fun j => by simp [lookL]) undef_vr
  · rw [if_pos (wantV_spec (hwc.trans hw) hcut)]
    rcases hr with ⟨hc, hr⟩ | ⟨hc, hr⟩ | ⟨hc, hr, n2, hr2⟩ | ⟨hc, hr⟩
    · refine step _ _ _ hr fun x hx hxe => ?_
      obtain ⟨e1, e2⟩ := hE x (hrcF x hx) hxe
      rw [e1]
      exact ⟨fun h => (by cases h), fun h => absurd h (hbef hc e2)⟩
    · refine step _ _ _ hr fun x hx hxe => ?_
      obtain ⟨e1, e2⟩ := hE x (hrcF x hx) hxe
      subst hc
      simp only [Bool.and_eq_true] at hcd
      refine ⟨fun _ => ?_, fun _ => rfl⟩
      rw [e1]
      refine hpre e ?_ hcd.1.2
      rw [← hsplit]
      exact List.mem_append_left _ (e1 ▸ hdn x hx)
    · by_cases hde : d e
      · exact step _ _ _ hr2 fun x hx hxe => by
          rw [(hE x (hrcF x hx) hxe).1]
          exact ⟨fun _ => hde, fun _ => rfl⟩
      · exact step _ _ _ hr fun x hx hxe => by
          rw [(hE x (hrcF x hx) hxe).1]
          exact ⟨fun h => (by cases h), fun h => absurd h hde⟩
    · refine step _ _ _ hr fun x hx hxe => ?_
      exfalso
      obtain ⟨e1, e2⟩ := hE x (hrcF x hx) hxe
      have hc3 : c = 3 := by have := parC_le hP.cd; omega
      subst hc3
      simp only [Bool.and_eq_true] at hcd
      have := hdn x hx
      rw [e1, ← Nat.eq_of_beq_eq_true hcd.1] at this
      exact hidn this
theorem evT_run (X : COk C) (hL : LOk C.P (CPC C) L) (hG : LgL L) (h0 : w0.CP = CPC C) {ops : Array Oper} {ρ0 : Nat → Rb} {m0 : Tre MO} {bs : Option Nat} {ks : List Nat} {ws : World} (H0 : MS w0 ρ0 m0 ws) {S : World → Prop} (hS : S = fun w' => ∀ i ∈ ks, ∀ ob, m0.get i = some ob → OR ρ0 (dom m0) w' i ob)
    {fr' : Fr} {m' : Tre MO} :
    ∀ (t : PJ) {fr : Fr} {st : St} {ρ : Nat → Rb} {a : Act} {w : World} {R : TR}, pjS ops.toList t = true → evT C L N ops.toList m0 bs t fr st = some R → MS w0 ρ st.m w → FS ρ (dom st.m) N fr a → Le ρ0 m0 ρ st.m → (∀ k ∈ R.ks, k ∈ ks) → (∀ k ∈ ks, ∀ m ∈ R.sn, m.get k = m0.get k) → R.fr = fr' → R.st.m = m' →
      wpJX C.P ops (fun x a' w' => x = .normal ∧ ∃ ρ', MS w0 ρ' m' w' ∧ Le ρ0 m0 ρ' m' ∧ FS ρ' (dom m') N fr' a') S t a w := by
  have back : ∀ {st : St} {ρ : Nat → Rb} {w : World} {i : Nat} {ob : MO}, MS w0 ρ st.m w → Le ρ0 m0 ρ st.m → m0.get i = some ob → st.m.get i = m0.get i → OR ρ0 (dom m0) w i ob := fun {st ρ w i ob} H hLe hi he =>
    (H0.obj i ob hi).back (H.obj i ob (by rw [he]; exact hi)) (fun _ => (hLe i ⟨ob, hi⟩).2) (fun j hj => (hLe j hj).2)
  have hvy : ∀ (sn : Bool) (i : Nat) (r : PJ) {fr : Fr} {st : St} {ρ : Nat → Rb} {a : Act} {w : World} {R : TR},
      (∀ {fr : Fr} {st : St} {ρ : Nat → Rb} {a : Act} {w : World} {R : TR}, evT C L N ops.toList m0 bs r fr st = some R → MS w0 ρ st.m w → FS ρ (dom st.m) N fr a → Le ρ0 m0 ρ st.m → (∀ k ∈ R.ks, k ∈ ks) → (∀ k ∈ ks, ∀ m ∈ R.sn, m.get k = m0.get k) → R.fr = fr' → R.st.m = m' →
        wpJX C.P ops (fun x a' w' => x = .normal ∧ ∃ ρ', MS w0 ρ' m' w' ∧ Le ρ0 m0 ρ' m' ∧ FS ρ' (dom m') N fr' a') S r a w) →
      hvT C L N ops.toList bs i sn (fun fr st => evT C L N ops.toList m0 bs r fr st) fr st = some R → MS w0 ρ st.m w → FS ρ (dom st.m) N fr a → Le ρ0 m0 ρ st.m → (∀ k ∈ R.ks, k ∈ ks) → (∀ k ∈ ks, ∀ m ∈ R.sn, m.get k = m0.get k) → R.fr = fr' → R.st.m = m' →
      wpOX C.P ops (fun x a' w' => x = .normal ∧ ∃ ρ', MS w0 ρ' m' w' ∧ Le ρ0 m0 ρ' m' ∧ FS ρ' (dom m') N fr' a') i (fun a' w' => (sn = true → S w') ∧ wpJX C.P ops (fun x a' w' => x = .normal ∧ ∃ ρ', MS w0 ρ' m' w' ∧ Le ρ0 m0 ρ' m' ∧ FS ρ' (dom m') N fr' a') S r a' w') a w := by
    intro sn i r fr st ρ a w R ih h H F hLe hks hsn hfr hm
    unfold hvT at h
    split at h
    · cases h
    rename_i o ho
    have ho' : ops[i]? = some o := by rw [lget_eq] at ho; simpa using ho
    refine ⟨o, ho', ?_⟩
    split at h
    · cases h
    · rename_i hw
      rw [if_neg (by rw [wantV_spec hw F.sl]; simp)]
      split at h
      · cases h
      rename_i fr1 hf
      split at h
      · cases h
      rename_i R1 hR1
      cases h
      refine ⟨fun hsn' => ?_, ih hR1 H (put_fs hf F undef_vr) hLe (fun k hk => hks k (by cases sn <;> exact hk)) (fun k hk m hm' => hsn k hk m (by cases sn <;> simp [hm'])) (by cases sn <;> exact hfr) (by cases sn <;> exact hm)⟩
      subst hsn'
      rw [hS]
      exact fun i hi ob hob => back H hLe hob (hsn i hi _ (by simp))
    · rename_i hw
      rw [if_pos (wantV_spec hw F.sl)]
      split at h
      · cases h
      rename_i v st1 hv
      split at h
      · cases h
      rename_i fr1 hf
      split at h
      · cases h
      rename_i R1 hR1
      cases h
      have hm0 : (stB st bs (i * 1024)).m = st.m := stB_m
      rw [← hm0] at H F hLe
      refine stepO_run X hL h0 hv H F.sl (fun ρ' tv w' H' L' hv' => ⟨fun hsn' => ?_, ih hR1 H' (put_fs hf (F.mono L') hv') (hLe.trans L') (fun k hk => hks k (by cases sn <;> exact hk)) (fun k hk m hm' => hsn k hk m (by cases sn <;> simp [hm'])) (by cases sn <;> exact hfr) (by cases sn <;> exact hm)⟩)
      subst hsn'
      rw [hS]
      exact fun i hi ob hob => back H' (hLe.trans L') hob (hsn i hi _ (by simp))
  intro t
  induction t with
  | stop =>
    intro fr st ρ a w R hpj h H F hLe hks hsn hfr hm
    simp only [evT, Option.some.injEq] at h
    subst h
    simp only at hfr hm
    rw [stB_m] at hm
    subst hfr; subst hm
    exact ⟨rfl, ρ, H, hLe, F⟩
  | op i k r ih =>
    intro fr st ρ a w R hpj h H F hLe hks hsn hfr hm
    simp only [pjS] at hpj
    match k with
    | 0 =>
      simp only [evT] at h
      split at h
      · cases h
      rename_i o ho
      have ho' : ops[i]? = some o := by rw [lget_eq] at ho; simpa using ho
      split at h
      · cases h
      · rename_i hw
        split at h
        · cases h
        rename_i fr1 hf
        exact ⟨o, undef, ho', .inr ⟨wantV_spec hw F.sl, rfl⟩, ih hpj h H (put_fs hf F undef_vr) hLe hks hsn hfr hm⟩
      · rename_i hw
        split at h
        · cases h
        rename_i v hv
        split at h
        · cases h
        rename_i fr1 hf
        obtain ⟨tv, h1, h2⟩ := evP_run X.toTM.toTX hv H F.sl
        exact ⟨o, tv, ho', .inl ⟨wantV_spec hw F.sl, fun w' _ => h2 w'⟩, ih hpj h H (put_fs hf F h1) hLe hks hsn hfr hm⟩
    | 1 =>
      simp only [evT] at h
      split at h
      · cases h
      rename_i o ho
      have ho' : ops[i]? = some o := by rw [lget_eq] at ho; simpa using ho
      split at h
      · cases h
      · rename_i hw
        split at h
        · cases h
        rename_i fr1 hf
        exact ⟨o, undef, ho', .inr ⟨wantV_spec hw F.sl, rfl⟩, ih hpj h H (put_fs hf F undef_vr) hLe hks hsn hfr hm⟩
      · rename_i hw
        split at h
        · cases h
        rename_i v id hv
        split at h
        · cases h
        rename_i fr1 hf
        cases hq : optq moq (st.m.get id) (m0.get id) with
        | false => rw [hq] at h; simp at h
        | true =>
          rw [hq] at h
          simp only [cond_true] at h
          split at h
          · cases h
          rename_i R1 hR1
          cases h
          obtain ⟨ob, g1, g2, g3⟩ := evL_run X.toTM (ρ := ρ0) hv F.sl (fun j hj => (hLe j hj).2)
          have heq := optq_eq (fun _ _ => moq_eq) hq
          obtain ⟨tv, t1, t2⟩ := g3 w (back H hLe g1 heq)
          refine ⟨o, tv, ho', .inl ⟨wantV_spec hw F.sl, fun w' hw' => ?_⟩, ih hpj hR1 H (put_fs hf F (t1.mono hLe)) hLe (fun k hk => hks k (List.mem_cons_of_mem _ hk)) hsn hfr hm⟩
          rw [hS] at hw'
          obtain ⟨tv', t3, t4⟩ := g3 w' (hw' id (hks id List.mem_cons_self) ob g1)
          rw [t4, t1.func t3 (fun _ _ => rfl)]
    | 2 =>
      simp only [evT] at h
      exact wpOX_mono (fun a' w' h' => ⟨h'.1 rfl, h'.2⟩) (hvy true i r (ih hpj) h H F hLe hks hsn hfr hm)
    | k + 3 =>
      simp only [evT] at h
      exact wpOX_mono (fun a' w' h' => h'.2) (hvy false i r (ih hpj) h H F hLe hks hsn hfr hm)
  | fork i r j s ihr ihs =>
    intro fr st ρ a w R hpj h H F hLe hks hsn hfr hm
    simp only [pjS, Bool.and_eq_true] at hpj
    simp only [evT] at h
    split at h
    · cases h
    rename_i A hA
    split at h
    · cases h
    rename_i B hB
    cases hq : (trq (veq 9) A.fr.s B.fr.s && listq Nat.beq A.fr.ds B.fr.ds && trq moq A.st.m B.st.m) with
    | false => rw [hq] at h; simp at h
    | true =>
      rw [hq] at h
      simp only [cond_true, Option.some.injEq] at h
      subst h
      simp only [Bool.and_eq_true] at hq
      have e1 := trq_eq (veq_eq 9) hq.1.1
      have e2 := listq_eq (fun _ _ => Nat.eq_of_beq_eq_true) hq.1.2
      have e3 := trq_eq (fun _ _ => moq_eq) hq.2
      have e4 : A.fr = B.fr := by
        cases hA' : A.fr
        cases hB' : B.fr
        rw [hA', hB'] at e1 e2
        simp only at e1 e2
        rw [e1, e2]
      exact ⟨wpOX_mono (fun a' w' h' => ⟨h'.1 rfl, h'.2⟩) (hvy true i r (ihr hpj.1) hA H F hLe (fun k hk => hks k (List.mem_append_left _ hk)) (fun k hk m hm' => hsn k hk m (List.mem_append_left _ hm')) hfr hm),
        wpOX_mono (fun a' w' h' => ⟨h'.1 rfl, h'.2⟩) (hvy true j s (ihs hpj.2) hB H F hLe (fun k hk => hks k (List.mem_append_right _ hk)) (fun k hk m hm' => hsn k hk m (List.mem_append_right _ hm')) (e4 ▸ hfr) (e3 ▸ hm))⟩
  | par anc e l r ih =>
    intro fr st ρ a w R hpj h H F hLe hks hsn hfr hm
    simp only [pjS, Bool.and_eq_true] at hpj
    simp only [evT] at h
    split at h
    · cases h
    rename_i frF rcF mf n hp
    split at h
    · cases h
    rename_i R1 hR1
    cases h
    obtain ⟨⟨nw, g1, g2⟩, g3, g4, g5, g6, g7⟩ := parGo_facts (dn := []) (dd := []) hp hpj.1.1 (fun x hx => by cases hx) (fun j => rfl) trivial (fun x hx => by cases hx) (fun x hx => by cases hx)
    have hmf := parGo_mem hp (fun j => rfl)
    rw [List.append_nil] at g1
    have hkeys : ∀ x ∈ rcF, x.k ∈ l.map (·.1) := fun x hx => g2 x (g1 ▸ hx)
    have hcode : ∀ x ∈ l, x.2.2 = 3 → x.1 = e := fun x hx h3 => by
      obtain ⟨l1, l2, hl⟩ := List.append_of_mem hx
      obtain ⟨i, hv, c⟩ := x
      obtain ⟨o, v, dl, hP⟩ := g7 l1 i hv c l2 hl
      have := hP.cd
      simp only at h3
      subst h3
      simp only [parC, Bool.and_eq_true] at this
      exact Nat.eq_of_beq_eq_true this.2.1
    have hSk : ∀ {ρ' : Nat → Rb} {M' : Tre MO} {d : Nat → Prop} {w' : World}, MS w0 ρ' M' w' → Le ρ0 m0 ρ' M' → (∀ j, M'.get j = gG st.m d rcF j) → S w' := fun {ρ' M' d w'} H' L' hM' => by
      rw [hS]
      intro i hi ob hob
      refine back (st := ⟨M', 0, []⟩) H' L' hob ?_
      show M'.get i = m0.get i
      have e1 := hsn i hi st.m (by simp)
      have e2 := hsn i hi (delL (rcKeys rcF []) st.m) (by simp)
      rw [delL_get] at e2
      rw [hM', gG_off, e1]
      intro x hx
      cases hl : lookL x.dl i with
      | none => rfl
      | some ob' =>
        rw [if_pos (rcKeys_at hx hl), hob] at e2
        cases e2
    have hnodup : (l.map (·.1)).Nodup := nodB_nodup hpj.1.2
    refine ⟨fun d a' w' => ∃ ρ' M', PI w0 N ops.toList st.m ρ l anc rcF fr frF ρ' M' d a' w', ⟨ρ, st.m, H, .refl, fun j => gG_start.symm, F.size, F.df, fun t x hx hw => ?_, fun i hi => hi.elim⟩, fun d i a' w' hI hi hd hpre => ?_, fun d a' w' hall hI => ?_⟩
    · obtain ⟨v, h1, h2⟩ := F.sl t x (by
        rw [← g6 t ?_]
        · exact hx
        · refine List.all_eq_true.2 fun y hy => ?_
          obtain ⟨z, hz, rfl⟩ := List.mem_map.1 hy
          simp only
          cases ho : lget ops.toList z.1 with
          | none =>
            exfalso
            obtain ⟨l1, l2, hl⟩ := List.append_of_mem hz
            obtain ⟨i, hv, c⟩ := z
            obtain ⟨o, v, dl, hP⟩ := g7 l1 i hv c l2 hl
            have := hP.op
            simp only at ho
            rw [ho] at this
            cases this
          | some o =>
            simp only [Bool.not_eq_true']
            cases hb : dstB t o.dst with
            | false => rfl
            | true =>
              exfalso
              unfold dstB at hb
              split at hb
              · cases hb
              · rename_i d0 hd0
                exact hw z hz o ho (by rw [hd0, Nat.eq_of_beq_eq_true hb]))
      exact ⟨v, h1, h2⟩
    · obtain ⟨ρ', M', I⟩ := hI
      obtain ⟨y, hy, rfl⟩ := List.mem_map.1 hi
      obtain ⟨l1, l2, hl⟩ := List.append_of_mem hy
      obtain ⟨i, hv, c⟩ := y
      obtain ⟨o, v, dl, hP⟩ := g7 l1 i hv c l2 hl
      simp only [List.nil_append] at hP
      have hl' := hl
      rw [hl] at I
      refine PFact_run X hL hG h0 H hP g3 g4 (by rw [← hl]; exact hnodup) (fun x hx => hcode x (by rw [hl]; exact List.mem_append_left _ hx)) I hd (fun k hk => hpre k (by rw [hl]; exact hk)) (fun ρ2 M2 a2 w2 I2 => ⟨hSk I2.ms (hLe.trans I2.le) I2.mem, ρ2, M2, by rw [hl]; exact I2⟩)
    · obtain ⟨ρ', M', I⟩ := hI
      have hme : ∀ j, M'.get j = mf.get j := fun j => by
        rw [I.mem, hmf, gG_end fun x hx => hall x.k (hkeys x hx)]
      have hdm : dom M' = dom mf := by funext j; unfold dom; rw [hme j]
      have Ht := I.ms.congr hme
      have Lt : Le ρ st.m ρ' mf := fun j hj => ⟨hdm ▸ (I.le j hj).1, (I.le j hj).2⟩
      refine ih hpj.2 hR1 Ht ⟨I.size, fun t x hx => ?_, ?_, fun i hi => ?_⟩ (hLe.trans Lt) hks (fun k hk m hm' => hsn k hk m (by simp [hm'])) hfr hm
      · obtain ⟨v, h1, h2⟩ := I.sl t x hx fun y hy _ _ _ => hall y.1 (List.mem_map.2 ⟨y, hy, rfl⟩)
        exact ⟨v, h1, by rw [← hdm]; exact h2⟩
      · rw [I.df, g5]
        exact List.map_congr_left fun i hi => by rw [(Lt i (F.dd i hi)).2]
      · rw [g5] at hi
        exact (Lt i (F.dd i hi)).1
theorem evReg_run (X : COk C) (hL : LOk C.P (CPC C) L) (hG : LgL L) (h0 : w0.CP = CPC C) {f id : Nat} {ops : Array Oper} {draw : Bool} {fr fr' : Fr} {ro : Option Nat} (hcp : CPC C f (.region id ops draw)) (h : evReg C L f N id ops draw fr st = some (fr', st')) (H : MS w0 ρ st.m w) (F : FS ρ (dom st.m) N fr a) :
    (Code.region id ops draw).wpIn (FR ro) 0 C.P (KQ w0 ρ st.m N .normal fr' st') a w := by
  obtain ⟨pl, hpl, hc⟩ := hcp
  unfold evReg at h
  cases draw with
  | false => exact wpIn_regionX hc (evOps_run X hL h0 h H F .refl)
  | true =>
    simp only [plC, Bool.and_eq_true] at hc
    simp only at h
    rw [hpl] at h
    simp only at h
    split at h
    · cases h
    rename_i p hp
    rw [hp] at hc
    simp only [Bool.and_eq_true] at hc
    split at h
    · cases h
    rename_i R hR
    cases hck : (R.ks.all fun k => R.sn.all fun m => optq moq (m.get k) (st.m.get k)) with
    | false => rw [hck] at h; simp at h
    | true =>
      rw [hck] at h
      simp only [cond_true, Option.some.injEq, Prod.mk.injEq] at h
      obtain ⟨rfl, rfl⟩ := h
      have hsn : ∀ k ∈ R.ks, ∀ m ∈ R.sn, m.get k = st.m.get k := fun k hk m hm => optq_eq (fun _ _ => moq_eq) (List.all_eq_true.1 (List.all_eq_true.1 hck k hk) m hm)
      refine wpIn_pjX (fun w' => ∀ i ∈ R.ks, ∀ ob, st.m.get i = some ob → OR ρ (dom st.m) w' i ob) p.full p.t X.mixed hc.2.1 hc.1 (fun _ _ _ _ _ h => (by cases h.1)) (fun i hi ob hob => H.drew.obj i ob hob) ?_
      exact evT_run X hL hG h0 H.drew rfl p.t hc.2.2 hR H.drew F .refl (fun _ h => h) hsn rfl rfl
end
end
end Go.Ev
