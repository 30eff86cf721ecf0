/- The machine for closed calls is right: regions, code, functions. -/
import Derived.Test.YtfiacjdkdjkiiaaEv6
namespace Go.Ev
open Go Go.RowKit Go.Tl
open Go.Proofs.Ytfiacjdkdjkiiaa (PT treeB)
set_option linter.unusedVariables false
set_option linter.unusedSimpArgs false
noncomputable section

section
variable {C : Cx} {L : Lv} {ρ : Nat → Rb} {st st' : St} {w : World} {w0 : W0} {a : Act} {o : Oper} {s : Tre Value} {N : Nat}
theorem stepO_run (X : COk C) (hL : LOk C.P (CPC C) L) (h0 : w0.CP = CPC C) {v : Value} (h : stepO C L o s st = some (v, st')) (H : MS w0 ρ st.m w) (hs : SR ρ (dom st.m) s a.tmps) {K : Act → World → Prop} {Q : Exit → Act → World → Prop}
    (hK : ∀ ρ' tv w', MS w0 ρ' st'.m w' → Le ρ st.m ρ' st'.m → VR ρ' (dom st'.m) v tv → K (a.put o.dst tv) w') : wpX C.P o a w K Q := by
  unfold stepO stepK at h
  split at h
  · unfold withSt at h
    split at h
    · cases h
    rename_i v' hv
    cases h
    obtain ⟨tv, h1, h2⟩ := evP_run X.toTM.toTX hv H hs
    unfold wpX
    rw [h2 w, Oper.uponIn_value]
    exact hK ρ tv w H .refl h1
  · unfold withSt1 at h
    split at h
    · cases h
    rename_i v' i hv
    cases h
    obtain ⟨ob, h1, h2, h3⟩ := evL_run X.toTM (ρ := ρ) hv hs (fun _ _ => rfl)
    obtain ⟨tv, h4, h5⟩ := h3 w (H.obj _ _ h1)
    unfold wpX
    rw [h5, Oper.uponIn_value]
    exact hK ρ tv w H .refl h4
  · obtain ⟨ρ', tv, w', nx, h1, h2, h3, h4, h5⟩ := evM_run X.toTM h H hs
    unfold wpX
    rw [h1]
    rcases h2 with rfl | ⟨rfl, rfl⟩
    · rw [Oper.uponIn_value]; exact hK ρ' tv w' h3 h4 h5
    · rw [Oper.uponIn_skip]; exact hK ρ' undef w' h3 h4 h5
  · exact callE_run hL h0 h H hs hK
/-- a list of operations -/
theorem evOps_run (X : COk C) (hL : LOk C.P (CPC C) L) (h0 : w0.CP = CPC C) {ops : Array Oper} {ρ0 : Nat → Rb} {m0 : Tre MO} {fr' : Fr} : ∀ {l : List Oper} {fr : Fr} {st : St} {ρ : Nat → Rb} {a : Act} {w : World}, evOps C L N ops.toList l fr st = some (fr', st') → MS w0 ρ st.m w → FS ρ (dom st.m) N fr a → Le ρ0 m0 ρ st.m →
    wpLX C.P ops (KQ w0 ρ0 m0 N .normal fr' st') l a w
  | [], fr, st, ρ, a, w, h, H, F, hLe => by
    simp only [evOps, Option.some.injEq, Prod.mk.injEq] at h
    obtain ⟨rfl, rfl⟩ := h
    exact ⟨rfl, ρ, H, hLe, F⟩
  | o :: rest, fr, st, ρ, a, w, h, H, F, hLe => by
    simp only [evOps] at h
    simp only [wpLX]
    split at h
    · cases h
    · rename_i hw
      rw [if_neg (by rw [wantV_spec hw F.sl]; simp)]
      split at h
      · cases h
      · rename_i fr1 hf
        exact evOps_run X hL h0 h H (put_fs hf F undef_vr) hLe
    · rename_i hw
      rw [if_pos (wantV_spec hw F.sl)]
      split at h
      · cases h
      rename_i v st1 hv
      split at h
      · cases h
      rename_i fr1 hf
      exact stepO_run X hL h0 hv H F.sl (fun ρ' tv w' H' L' hv' => evOps_run X hL h0 h H' (put_fs hf (F.mono L') hv') (hLe.trans L'))
/-- a region along its tree -/
theorem evT_run (X : COk C) (hL : LOk C.P (CPC C) L) (h0 : w0.CP = CPC C) {ops : Array Oper} {ρ0 : Nat → Rb} {m0 : Tre MO} {bs : Option Nat} {ks : List Nat} {ws : World} (H0 : MS w0 ρ0 m0 ws) {S : World → Prop} (hS : S = fun w' => ∀ i ∈ ks, ∀ ob, m0.get i = some ob → OR ρ0 (dom m0) w' i ob)
    {fr' : Fr} {m' : Tre MO} :
    ∀ (t : PT) {fr : Fr} {st : St} {ρ : Nat → Rb} {a : Act} {w : World} {R : TR}, evT C L N ops.toList m0 bs t fr st = some R → MS w0 ρ st.m w → FS ρ (dom st.m) N fr a → Le ρ0 m0 ρ st.m → (∀ k ∈ R.ks, k ∈ ks) → (∀ k ∈ ks, ∀ m ∈ R.sn, m.get k = m0.get k) → R.fr = fr' → R.st.m = m' →
      wpTX C.P ops (fun x a' w' => x = .normal ∧ ∃ ρ', MS w0 ρ' m' w' ∧ Le ρ0 m0 ρ' m' ∧ FS ρ' (dom m') N fr' a') S t a w := by
  have back : ∀ {st : St} {ρ : Nat → Rb} {w : World} {i : Nat} {ob : MO}, MS w0 ρ st.m w → Le ρ0 m0 ρ st.m → m0.get i = some ob → st.m.get i = m0.get i → OR ρ0 (dom m0) w i ob := fun {st ρ w i ob} H hLe hi he =>
    (H0.obj i ob hi).back (H.obj i ob (by rw [he]; exact hi)) (fun _ => (hLe i ⟨ob, hi⟩).2) (fun j hj => (hLe j hj).2)
  have hvy : ∀ (sn : Bool) (i : Nat) (r : PT) {fr : Fr} {st : St} {ρ : Nat → Rb} {a : Act} {w : World} {R : TR},
      (∀ {fr : Fr} {st : St} {ρ : Nat → Rb} {a : Act} {w : World} {R : TR}, evT C L N ops.toList m0 bs r fr st = some R → MS w0 ρ st.m w → FS ρ (dom st.m) N fr a → Le ρ0 m0 ρ st.m → (∀ k ∈ R.ks, k ∈ ks) → (∀ k ∈ ks, ∀ m ∈ R.sn, m.get k = m0.get k) → R.fr = fr' → R.st.m = m' →
        wpTX C.P ops (fun x a' w' => x = .normal ∧ ∃ ρ', MS w0 ρ' m' w' ∧ Le ρ0 m0 ρ' m' ∧ FS ρ' (dom m') N fr' a') S r a w) →
      hvT C L N ops.toList bs i sn (fun fr st => evT C L N ops.toList m0 bs r fr st) fr st = some R → MS w0 ρ st.m w → FS ρ (dom st.m) N fr a → Le ρ0 m0 ρ st.m → (∀ k ∈ R.ks, k ∈ ks) → (∀ k ∈ ks, ∀ m ∈ R.sn, m.get k = m0.get k) → R.fr = fr' → R.st.m = m' →
      wpOX C.P ops (fun x a' w' => x = .normal ∧ ∃ ρ', MS w0 ρ' m' w' ∧ Le ρ0 m0 ρ' m' ∧ FS ρ' (dom m') N fr' a') i (fun a' w' => (sn = true → S w') ∧ wpTX C.P ops (fun x a' w' => x = .normal ∧ ∃ ρ', MS w0 ρ' m' w' ∧ Le ρ0 m0 ρ' m' ∧ FS ρ' (dom m') N fr' a') S r a' w') a w := by
    intro sn i r fr st ρ a w R ih h H F hLe hks hsn hfr hm
    unfold hvT at h
    split at h
    · cases h
    rename_i o ho
    have ho' : ops[i]? = some o := by rw [lget_eq] at ho; simpa using ho
    refine ⟨o, ho', ?_⟩
    split at h
    · cases h
    · rename_i hw
      rw [if_neg (by rw [wantV_spec hw F.sl]; simp)]
      split at h
      · cases h
      rename_i fr1 hf
      split at h
      · cases h
      rename_i R1 hR1
      cases h
      refine ⟨fun hsn' => ?_, ih hR1 H (put_fs hf F undef_vr) hLe (fun k hk => hks k (by cases sn <;> exact hk)) (fun k hk m hm' => hsn k hk m (by cases sn <;> simp [hm'])) (by cases sn <;> exact hfr) (by cases sn <;> exact hm)⟩
      subst hsn'
      rw [hS]
      exact fun i hi ob hob => back H hLe hob (hsn i hi _ (by simp))
    · rename_i hw
      rw [if_pos (wantV_spec hw F.sl)]
      split at h
      · cases h
      rename_i v st1 hv
      split at h
      · cases h
      rename_i fr1 hf
      split at h
      · cases h
      rename_i R1 hR1
      cases h
      have hm0 : (stB st bs (i * 1024)).m = st.m := stB_m
      rw [← hm0] at H F hLe
      refine stepO_run X hL h0 hv H F.sl (fun ρ' tv w' H' L' hv' => ⟨fun hsn' => ?_, ih hR1 H' (put_fs hf (F.mono L') hv') (hLe.trans L') (fun k hk => hks k (by cases sn <;> exact hk)) (fun k hk m hm' => hsn k hk m (by cases sn <;> simp [hm'])) (by cases sn <;> exact hfr) (by cases sn <;> exact hm)⟩)
      subst hsn'
      rw [hS]
      exact fun i hi ob hob => back H' (hLe.trans L') hob (hsn i hi _ (by simp))
  intro t
  induction t with
  | stop =>
    intro fr st ρ a w R h H F hLe hks hsn hfr hm
    simp only [evT, Option.some.injEq] at h
    subst h
    simp only at hfr hm
    rw [stB_m] at hm
    subst hfr; subst hm
    exact ⟨rfl, ρ, H, hLe, F⟩
  | op i k r ih =>
    intro fr st ρ a w R h H F hLe hks hsn hfr hm
    match k with
    | 0 =>
      simp only [evT] at h
      split at h
      · cases h
      rename_i o ho
      have ho' : ops[i]? = some o := by rw [lget_eq] at ho; simpa using ho
      split at h
      · cases h
      · rename_i hw
        split at h
        · cases h
        rename_i fr1 hf
        exact ⟨o, undef, ho', .inr ⟨wantV_spec hw F.sl, rfl⟩, ih h H (put_fs hf F undef_vr) hLe hks hsn hfr hm⟩
      · rename_i hw
        split at h
        · cases h
        rename_i v hv
        split at h
        · cases h
        rename_i fr1 hf
        obtain ⟨tv, h1, h2⟩ := evP_run X.toTM.toTX hv H F.sl
        exact ⟨o, tv, ho', .inl ⟨wantV_spec hw F.sl, fun w' _ => h2 w'⟩, ih h H (put_fs hf F h1) hLe hks hsn hfr hm⟩
    | 1 =>
      simp only [evT] at h
      split at h
      · cases h
      rename_i o ho
      have ho' : ops[i]? = some o := by rw [lget_eq] at ho; simpa using ho
      split at h
      · cases h
      · rename_i hw
        split at h
        · cases h
        rename_i fr1 hf
        exact ⟨o, undef, ho', .inr ⟨wantV_spec hw F.sl, rfl⟩, ih h H (put_fs hf F undef_vr) hLe hks hsn hfr hm⟩
      · rename_i hw
        split at h
        · cases h
        rename_i v id hv
        split at h
        · cases h
        rename_i fr1 hf
        cases hq : optq moq (st.m.get id) (m0.get id) with
        | false => rw [hq] at h; simp at h
        | true =>
          rw [hq] at h
          simp only [cond_true] at h
          split at h
          · cases h
          rename_i R1 hR1
          cases h
          obtain ⟨ob, g1, g2, g3⟩ := evL_run X.toTM (ρ := ρ0) hv F.sl (fun j hj => (hLe j hj).2)
          have heq := optq_eq (fun _ _ => moq_eq) hq
          obtain ⟨tv, t1, t2⟩ := g3 w (back H hLe g1 heq)
          refine ⟨o, tv, ho', .inl ⟨wantV_spec hw F.sl, fun w' hw' => ?_⟩, ih hR1 H (put_fs hf F (t1.mono hLe)) hLe (fun k hk => hks k (List.mem_cons_of_mem _ hk)) hsn hfr hm⟩
          rw [hS] at hw'
          obtain ⟨tv', t3, t4⟩ := g3 w' (hw' id (hks id List.mem_cons_self) ob g1)
          rw [t4, t1.func t3 (fun _ _ => rfl)]
    | 2 =>
      simp only [evT] at h
      exact wpOX_mono (fun a' w' h' => ⟨h'.1 rfl, h'.2⟩) (hvy true i r ih h H F hLe hks hsn hfr hm)
    | k + 3 =>
      simp only [evT] at h
      exact wpOX_mono (fun a' w' h' => h'.2) (hvy false i r ih h H F hLe hks hsn hfr hm)
  | fork i r j s ihr ihs =>
    intro fr st ρ a w R h H F hLe hks hsn hfr hm
    simp only [evT] at h
    split at h
    · cases h
    rename_i A hA
    split at h
    · cases h
    rename_i B hB
    cases hq : (trq (veq 9) A.fr.s B.fr.s && listq Nat.beq A.fr.ds B.fr.ds && trq moq A.st.m B.st.m) with
    | false => rw [hq] at h; simp at h
    | true =>
      rw [hq] at h
      simp only [cond_true, Option.some.injEq] at h
      subst h
      simp only [Bool.and_eq_true] at hq
      have e1 := trq_eq (veq_eq 9) hq.1.1
      have e2 := listq_eq (fun _ _ => Nat.eq_of_beq_eq_true) hq.1.2
      have e3 := trq_eq (fun _ _ => moq_eq) hq.2
      have e4 : A.fr = B.fr := by
        cases hA' : A.fr
        cases hB' : B.fr
        rw [hA', hB'] at e1 e2
        simp only at e1 e2
        rw [e1, e2]
      exact ⟨wpOX_mono (fun a' w' h' => ⟨h'.1 rfl, h'.2⟩) (hvy true i r ihr hA H F hLe (fun k hk => hks k (List.mem_append_left _ hk)) (fun k hk m hm' => hsn k hk m (List.mem_append_left _ hm')) hfr hm),
        wpOX_mono (fun a' w' h' => ⟨h'.1 rfl, h'.2⟩) (hvy true j s ihs hB H F hLe (fun k hk => hks k (List.mem_append_right _ hk)) (fun k hk m hm' => hsn k hk m (List.mem_append_right _ hm')) (e4 ▸ hfr) (e3 ▸ hm))⟩
theorem evReg_run (X : COk C) (hL : LOk C.P (CPC C) L) (h0 : w0.CP = CPC C) {f id : Nat} {ops : Array Oper} {draw : Bool} {fr fr' : Fr} {ro : Option Nat} (hcp : CPC C f (.region id ops draw)) (h : evReg C L f N id ops draw fr st = some (fr', st')) (H : MS w0 ρ st.m w) (F : FS ρ (dom st.m) N fr a) :
    (Code.region id ops draw).wpIn (FR ro) 0 C.P (KQ w0 ρ st.m N .normal fr' st') a w := by
  obtain ⟨pl, hpl, hc⟩ := hcp
  unfold evReg at h
  cases draw with
  | false => exact wpIn_regionX hc (evOps_run X hL h0 h H F .refl)
  | true =>
    simp only [plC, Bool.and_eq_true] at hc
    simp only at h
    rw [hpl] at h
    simp only at h
    split at h
    · cases h
    rename_i p hp
    rw [hp] at hc
    simp only at hc
    split at h
    · cases h
    rename_i R hR
    cases hck : (R.ks.all fun k => R.sn.all fun m => optq moq (m.get k) (st.m.get k)) with
    | false => rw [hck] at h; simp at h
    | true =>
      rw [hck] at h
      simp only [cond_true, Option.some.injEq, Prod.mk.injEq] at h
      obtain ⟨rfl, rfl⟩ := h
      have hsn : ∀ k ∈ R.ks, ∀ m ∈ R.sn, m.get k = st.m.get k := fun k hk m hm => optq_eq (fun _ _ => moq_eq) (List.all_eq_true.1 (List.all_eq_true.1 hck k hk) m hm)
      refine wpIn_treeX (fun w' => ∀ i ∈ R.ks, ∀ ob, st.m.get i = some ob → OR ρ (dom st.m) w' i ob) p.full p.t X.mixed hc.2 hc.1 (fun _ _ _ _ _ h => (by cases h.1)) (fun i hi ob hob => H.drew.obj i ob hob) ?_
      exact evT_run X hL h0 H.drew rfl p.t hR H.drew F .refl (fun _ h => h) hsn rfl rfl
end
end
end Go.Ev
