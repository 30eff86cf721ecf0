/- The machine for closed calls: a long run in pieces, with what is not needed any more left out between them. -/
import Derived.Test.YtilhflfbbfeakaaEv9
namespace Go.Ev
open Go Go.RowKit Go.Tl
set_option linter.unusedVariables false
set_option linter.unusedSimpArgs false
noncomputable section
def gcM (m : Tre MO) : List Nat → Tre MO → Tre MO
  | [], t => t
  | i :: is, t => match m.get i with
    | some o => (Tre.ins (some o) t i).force fun t' => gcM m is t'
    | none => gcM m is t
def gcS (s : Tre Value) : List Nat → Tre Value → Tre Value
  | [], t => t
  | i :: is, t => match s.get i with
    | some o => (Tre.ins (some o) t i).force fun t' => gcS s is t'
    | none => gcS s is t
def gcF (ks ss : List Nat) (fr : Fr) (st : St) : Option (Fr × St) :=
  (gcM st.m ks .e).force fun m' => (gcS fr.s ss .e).force fun s' =>
    cond (m'.all (fun _ o => objIn m' o) && s'.all (fun _ v => vin 9 m' v) && fr.ds.isEmpty) (some (⟨s', []⟩, ⟨m', st.nx, []⟩)) none
section
variable {ρ : Nat → Rb} {D : Nat → Prop} {m : Tre MO} {w : World}
theorem gcM_sub : ∀ (ks : List Nat) (t : Tre MO), (∀ i o, t.get i = some o → m.get i = some o) → ∀ i o, (gcM m ks t).get i = some o → m.get i = some o
  | [], t, h => h
  | k :: ks, t, h => by
    simp only [gcM]
    split
    · rename_i o ho
      rw [Tre.force_eq]
      refine gcM_sub ks _ (fun i o' hi => ?_)
      obtain ⟨h1, h2⟩ := Tre.ins_get (some o) t k
      by_cases hk : i = k
      · subst hk; rw [h1] at hi; cases hi; exact ho
      · rw [h2 i hk] at hi; exact h i o' hi
    · exact gcM_sub ks t h
theorem gcS_sub {s : Tre Value} : ∀ (ks : List Nat) (t : Tre Value), (∀ i o, t.get i = some o → s.get i = some o) → ∀ i o, (gcS s ks t).get i = some o → s.get i = some o
  | [], t, h => h
  | k :: ks, t, h => by
    simp only [gcS]
    split
    · rename_i o ho
      rw [Tre.force_eq]
      refine gcS_sub ks _ (fun i o' hi => ?_)
      obtain ⟨h1, h2⟩ := Tre.ins_get (some o) t k
      by_cases hk : i = k
      · subst hk; rw [h1] at hi; cases hi; exact ho
      · rw [h2 i hk] at hi; exact h i o' hi
    · exact gcS_sub ks t h
theorem gcF_ok {ks ss : List Nat} {fr fr' : Fr} {st st' : St} {w0 : W0} {N : Nat} {a : Act} (h : gcF ks ss fr st = some (fr', st')) (H : MS w0 ρ st.m w) (F : FS ρ (dom st.m) N fr a) : MS w0 ρ st'.m w ∧ FS ρ (dom st'.m) N fr' a := by
  unfold gcF at h
  rw [Tre.force_eq, Tre.force_eq] at h
  cases hb : ((gcM st.m ks .e).all (fun _ o => objIn (gcM st.m ks .e) o) && (gcS fr.s ss .e).all (fun _ v => vin 9 (gcM st.m ks .e) v) && fr.ds.isEmpty) with
  | false => rw [hb] at h; simp at h
  | true =>
    rw [hb] at h
    simp only [cond_true, Option.some.injEq, Prod.mk.injEq] at h
    obtain ⟨rfl, rfl⟩ := h
    simp only [Bool.and_eq_true] at hb
    obtain ⟨⟨h1, h2⟩, h3⟩ := hb
    have hsub := gcM_sub (m := st.m) ks .e (fun i o h => by rw [Tre.get_e] at h; cases h)
    have hsubS := gcS_sub (s := fr.s) ss .e (fun i o h => by rw [Tre.get_e] at h; cases h)
    have hds : fr.ds = [] := by simpa using h3
    refine ⟨⟨H.os, H.tape, H.output, H.size, H.old, fun i o hi => (H.obj i o (hsub i o hi)).shrink (Tre.all_get _ _ h1 _ _ hi), fun i o hi => H.cp i o (hsub i o hi), fun i o hi => H.lo i o (hsub i o hi), fun i j o o' hi hj => H.inj i j o o' (hsub i o hi) (hsub j o' hj)⟩, F.size, fun d x hx => ?_, ?_, fun i hi => by cases hi⟩
    · obtain ⟨v, g1, g2⟩ := F.sl d x (hsubS d x hx)
      exact ⟨v, g1, g2.shrink 9 (Tre.all_get _ _ h2 _ _ hx)⟩
    · rw [F.df, hds]
end
def Run (C : Cx) (f N : Nat) (c : Code) (fr : Fr) (st : St) (e : Ex) (fr' : Fr) (st' : St) : Prop :=
  ∀ (w0 : W0) (ρ : Nat → Rb) (w : World) (a : Act), w0.CP = CPC C → CPC C f c → MS w0 ρ st.m w → FS ρ (dom st.m) N fr a →
    c.wpIn (FR none) 0 C.P (fun x a' w' => x = exOf e ∧ ∃ ρ', MS w0 ρ' st'.m w' ∧ FS ρ' (dom st'.m) N fr' a') a w
def seqRun (L : Lv) (f N : Nat) : Nat → Code → Fr → St → Option (Fr × St)
  | 0, _, fr, st => some (fr, st)
  | j + 1, .seq a b, fr, st => match L.code f N false a fr st with
    | some (.normal, fr', st') => seqRun L f N j b fr' st'
    | _ => none
  | _, _, _, _ => none
def seqDrop : Nat → Code → Code
  | 0, c => c
  | j + 1, .seq _ b => seqDrop j b
  | _, c => c
section
variable {C : Cx} {f N n : Nat} {fr fr' fr'' : Fr} {st st' st'' : St} {e : Ex}
def lastV (C : Cx) (L : Lv) (f : Nat) (fn : Func) (c : Code) (fr : Fr) (st : St) : Option Value :=
  match L.code f fn.ntmps false c fr st with
  | some (.ret, fr', st') => match shutE fr'.ds st' with
    | none => none
    | some st2 => match resE C.T st2.m fr'.s fn.results.toList with
      | none => none
      | some vs => some (resV vs)
  | _ => none
def Rest (C : Cx) (f : Nat) (fn : Func) (c : Code) (fr : Fr) (st : St) (v : Value) : Prop :=
  ∀ (ww : World) (ρ : Nat → Rb) (w : World) (a : Act), CPC C f c → MS (W0.of ww (CPC C)) ρ st.m w → FS ρ (dom st.m) fn.ntmps fr a →
    c.wpIn (FR none) 0 C.P (bodyPostM Fence.wide 0 C.P fn (fun e w' => e = .returned v ∧ Below ww.heap.size ww w')) a w
theorem rest_last (X : COk C) {fn : Func} {c : Code} {v : Value} (h : lastV C (lv C n) f fn c fr st = some v) (hv : scB v = true) : Rest C f fn c fr st v := fun ww ρ w a hcp H F => by
  unfold lastV at h
  split at h
  · rename_i fr1 st1 hcode
    split at h
    · cases h
    rename_i st2 h2
    split at h
    · cases h
    rename_i us h3
    cases h
    refine Code.wpIn_mono (fun q a' w' hq => ?_) ((lv_ok X n).code _ _ _ _ _ _ _ _ _ hcode (W0.of ww (CPC C)) ρ w a none rfl hcp rfl H F)
    obtain ⟨rfl, ρ1, H1, L1, F1⟩ := hq
    show LeavesInM Fence.wide 0 C.P fn a'.tmps _ a'.defers .returning w'
    rw [F1.df]
    refine shutE_run h2 H1 (fun w2 H2 L2 => ?_)
    obtain ⟨tv, k1, k2⟩ := results_ev X.toTM.toTX H2 (F1.sl.mono L2) h3
    refine ⟨tv, k1, ?_, H2.os, H2.tape, H2.output, H2.size, fun b hb => H2.old b hb⟩
    rw [k2.scal hv]
  · cases h
theorem rest_more (X : COk C) {fn : Func} {v : Value} : ∀ (j : Nat) {c : Code} {fr : Fr} {st : St} {ks ss : List Nat}, (match seqRun (lv C n) f fn.ntmps j c fr st with | none => none | some r => gcF ks ss r.1 r.2) = some (fr', st') → Rest C f fn (seqDrop j c) fr' st' v → Rest C f fn c fr st v
  | 0, c, fr, st, ks, ss, h, hr => fun ww ρ w a hcp H F => by
    simp only [seqRun] at h
    obtain ⟨H', F'⟩ := gcF_ok h H F
    exact hr ww ρ w a hcp H' F'
  | j + 1, c, fr, st, ks, ss, h, hr => fun ww ρ w a hcp H F => by
    cases c with
    | seq x y =>
      simp only [seqRun] at h
      obtain ⟨pl, hpl, hpc⟩ := hcp
      simp only [plC, Bool.and_eq_true] at hpc
      split at h
      · cases h
      rename_i r hr1
      split at hr1
      · rename_i fr1 st1 h1
        refine wpIn_seq (Code.wpIn_mono (fun q a' w' hq => ?_) ((lv_ok X n).code _ _ _ _ _ _ _ _ _ h1 (W0.of ww (CPC C)) ρ w a none rfl ⟨pl, hpl, hpc.1⟩ rfl H F))
        obtain ⟨rfl, ρ1, H1, L1, F1⟩ := hq
        refine rest_more X j (c := y) (ks := ks) (ss := ss) ?_ hr ww ρ1 w' a' ⟨pl, hpl, hpc.2⟩ H1 F1
        rw [hr1]
        exact h
      · cases hr1
    | _ => simp [seqRun] at h
def piece (L : Lv) (f N j : Nat) (c : Code) (ks ss : List Nat) (fr : Fr) (st : St) : Option (Fr × St) :=
  match seqRun L f N j c fr st with | none => none | some r => gcF ks ss r.1 r.2
theorem rest_piece (X : COk C) {fn : Func} {v : Value} {j : Nat} {c c' : Code} {fr : Fr} {st : St} {ks ss : List Nat} (h : piece (lv C n) f fn.ntmps j c ks ss fr st = some (fr', st')) (hc : c' = seqDrop j c) (hr : Rest C f fn c' fr' st' v) : Rest C f fn c fr st v := by
  subst hc
  exact rest_more X j h hr
theorem rest_call (X : COk C) {fn : Func} {c : Code} {v : Value} (hf : C.P.funcs[f]? = some fn) (hc : fn.body = some c) (hp : (C.pl.get f).isSome = true) (h : Rest C f fn c ⟨.e, []⟩ ⟨.e, 0, []⟩ v) (w : World) : Calls C.P f #[] w fun e w' => e = .returned v ∧ Below w.heap.size w w' := by
  refine (callsIn_wide (n := 0)).1 (callsIn_of_wp_marks hf hc trivial ?_)
  obtain ⟨pl, hpl⟩ := Option.isSome_iff_exists.1 hp
  have hcd : CPC C f c := ⟨pl, hpl, by
    have := Tre.all_get _ _ X.cdOk _ _ hpl
    simpa only [plOkF, hf, hc] using this⟩
  exact h w (fun _ => default) w _ hcd ⟨rfl, rfl, rfl, Nat.le_refl _, fun _ _ => rfl, fun i o h => (by rw [Tre.get_e] at h; cases h), fun i o h => (by rw [Tre.get_e] at h; cases h), fun i o h => (by rw [Tre.get_e] at h; cases h), fun i j o o' h => (by rw [Tre.get_e] at h; cases h)⟩
    ⟨by simp, fun d x hx => (by rw [Tre.get_e] at hx; cases hx), rfl, fun i hi => (by cases hi)⟩
end
end
end Go.Ev
