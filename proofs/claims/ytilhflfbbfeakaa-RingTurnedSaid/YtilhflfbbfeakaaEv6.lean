/- The machine for closed calls is right: what it comes to, the program comes to, in whatever world. -/
import Derived.Test.YtilhflfbbfeakaaGE1
namespace Go.Ev
open Go Go.RowKit Go.Tl
set_option linter.unusedVariables false
set_option linter.unusedSimpArgs false
noncomputable section
theorem anq_eq {a b : Option Addr} (h : anq a b = true) : a = b := by
  unfold anq at h
  split at h
  · rfl
  · simp only [Bool.and_eq_true] at h
    rw [Nat.eq_of_beq_eq_true h.1, Nat.eq_of_beq_eq_true h.2]
  · cases h
theorem listq_eq {α : Type} {q : α → α → Bool} (hq : ∀ a b, q a b = true → a = b) : ∀ {xs ys : List α}, listq q xs ys = true → xs = ys
  | [], [], _ => rfl
  | x :: xs, y :: ys, h => by
    simp only [listq, Bool.and_eq_true] at h
    rw [hq _ _ h.1, listq_eq hq h.2]
  | [], _ :: _, h => by simp [listq] at h
  | _ :: _, [], h => by simp [listq] at h
theorem veq_eq : ∀ (n : Nat) (x y : Value), veq n x y = true → x = y := by
  intro n
  induction n with
  | zero => intro x y h; simp [veq] at h
  | succ n ih =>
    intro x y h
    have hl : ∀ {a b : Array Value}, listq (veq n) a.toList b.toList = true → a = b := fun h => by
      apply Array.ext'
      exact listq_eq ih h
    cases x <;> cases y <;> first | (simp only [veq, Bool.false_eq_true] at h; done) | skip
    case bool.bool => simp only [veq] at h; rw [beq_iff_eq.1 h]
    case int.int => simp only [veq, Bool.and_eq_true, decide_eq_true_eq] at h; rw [ikq_eq h.1, h.2]
    case pointer.pointer => simp only [veq] at h; rw [anq_eq h]
    case slice.slice => simp only [veq, Bool.and_eq_true] at h; rw [anq_eq h.1.1, Nat.eq_of_beq_eq_true h.1.2, Nat.eq_of_beq_eq_true h.2]
    case map.map a b => cases a <;> cases b <;> simp only [veq, Bool.false_eq_true] at h
                        · rfl
                        · rw [Nat.eq_of_beq_eq_true h]
    case func.func f a b g c d =>
      cases f <;> cases g <;> first | (simp only [veq, Bool.false_eq_true] at h; done) | skip
      simp only [veq, Bool.and_eq_true] at h
      rw [Nat.eq_of_beq_eq_true h.1.1, hl h.1.2, hl h.2]
    case nilFunc.nilFunc => rfl
    case nilIface.nilIface => rfl
    case agg.agg => simp only [veq] at h; rw [hl h]
    case tuple.tuple => simp only [veq] at h; rw [hl h]
theorem moq_eq {a b : MO} (h : moq a b = true) : a = b := by
  unfold moq at h
  split at h <;> first | cases h | skip
  · simp only [Bool.and_eq_true, beq_iff_eq] at h
    rw [Nat.eq_of_beq_eq_true h.1.1.1, Nat.eq_of_beq_eq_true h.1.1.2, h.1.2, listq_eq (veq_eq 9) h.2]
  · simp only [Bool.and_eq_true] at h
    rw [kkq_eq h.1.1, Nat.eq_of_beq_eq_true h.2, listq_eq (fun a b h => by
      simp only [Bool.and_eq_true] at h
      obtain ⟨a1, a2, a3⟩ := a
      obtain ⟨b1, b2, b3⟩ := b
      simp only at h
      rw [veq_eq 9 _ _ h.1.1, veq_eq 9 _ _ h.1.2, Nat.eq_of_beq_eq_true h.2]) h.1.2]
  · rfl
  · rfl
theorem optq_eq {α : Type} {q : α → α → Bool} (hq : ∀ a b, q a b = true → a = b) {a b : Option α} (h : optq q a b = true) : a = b := by
  cases a <;> cases b <;> simp only [optq, Bool.false_eq_true] at h
  · rfl
  · rw [hq _ _ h]
theorem trq_eq {α : Type} {q : α → α → Bool} (hq : ∀ a b, q a b = true → a = b) : ∀ {a b : Tre α}, trq q a b = true → a = b := by
  intro a
  induction a with
  | e => intro b h; cases b with
    | e => rfl
    | n => simp [trq] at h
  | n l x r ihl ihr =>
    intro b h
    cases b with
    | e => simp [trq] at h
    | n l' x' r' =>
      simp only [trq, Bool.and_eq_true] at h
      have hx : x = x' := by
        cases x <;> cases x' <;> simp only [Bool.false_eq_true, false_and] at h
        · rfl
        · rw [hq _ _ h.1.1]
      rw [hx, ihl h.1.2, ihr h.2]
structure FS (ρ : Nat → Rb) (D : Nat → Prop) (N : Nat) (fr : Fr) (a : Act) : Prop where
  size : a.tmps.size = N
  sl : SR ρ D fr.s a.tmps
  df : a.defers = fr.ds.map fun i => markD (ρ i).b
  dd : ∀ i ∈ fr.ds, D i
theorem FS.mono {ρ ρ' : Nat → Rb} {D D' : Nat → Prop} {N : Nat} {fr : Fr} {a : Act} (h : FS ρ D N fr a) (hD : ∀ i, D i → D' i ∧ ρ' i = ρ i) : FS ρ' D' N fr a :=
  ⟨h.size, h.sl.mono hD, by rw [h.df]; exact List.map_congr_left fun i hi => by rw [(hD i (h.dd i hi)).2], fun i hi => (hD i (h.dd i hi)).1⟩
theorem put_fs {ρ : Nat → Rb} {D : Nat → Prop} {N : Nat} {fr fr' : Fr} {a : Act} {d : Option Nat} {v tv : Value} (h : put N fr d v = some fr') (hf : FS ρ D N fr a) (hv : VR ρ D v tv) : FS ρ D N fr' (a.put d tv) := by
  unfold put at h
  split at h
  · cases h; exact hf
  · rename_i d
    cases hb : Nat.blt d N with
    | false => rw [hb] at h; simp at h
    | true =>
      rw [hb] at h
      simp only [cond_true, fz_eq] at h
      split at h
      · cases h
      · rename_i s' hs'
        cases h
        obtain ⟨h1, h2⟩ := Tre.set_get _ _ _ _ _ hs'
        have hlt := blt_iff' hb
        refine ⟨by simp [Act.put, hf.size], fun e x hx => ?_, hf.df, hf.dd⟩
        simp only [Act.put]
        by_cases he : e = d
        · subst he
          rw [h1] at hx
          cases hx
          exact ⟨tv, by simp [hf.size, hlt], hv⟩
        · rw [h2 e he] at hx
          obtain ⟨u, hu, hr⟩ := hf.sl e x hx
          exact ⟨u, by rw [Array.getElem?_setIfInBounds_ne (Ne.symm he)]; exact hu, hr⟩
theorem setAll_sr {ρ : Nat → Rb} {D : Nat → Prop} {N : Nat} : ∀ {ps : List Nat} {vs tvs : List Value} {s s' : Tre Value} {t : Array Value}, setAll N s ps vs = some s' → SR ρ D s t → t.size = N → VRs ρ D vs tvs →
    ps.length = tvs.length ∧ SR ρ D s' ((ps.zip tvs).foldl (fun t (x : Nat × Value) => t.setIfInBounds x.1 x.2) t) ∧ ((ps.zip tvs).foldl (fun t (x : Nat × Value) => t.setIfInBounds x.1 x.2) t).size = N
  | [], vs, tvs, s, s', t, h, hs, ht, hv => by
    cases vs with
    | nil =>
      simp only [setAll, Option.some.injEq] at h
      subst h
      have : tvs = [] := List.length_eq_zero_iff.1 hv.1.symm
      subst this
      exact ⟨rfl, hs, ht⟩
    | cons v vs => simp [setAll] at h
  | p :: ps, vs, tvs, s, s', t, h, hs, ht, hv => by
    cases vs with
    | nil => simp [setAll] at h
    | cons v vs =>
      cases tvs with
      | nil => have := hv.1; simp at this
      | cons tv tvs =>
        simp only [setAll] at h
        cases hb : Nat.blt p N with
        | false => rw [hb] at h; simp at h
        | true =>
          rw [hb] at h
          simp only [cond_true, fz_eq] at h
          split at h
          · cases h
          · rename_i s1 hs1
            obtain ⟨h1, h2⟩ := Tre.set_get _ _ _ _ _ hs1
            have hlt := blt_iff' hb
            have hv0 : VR ρ D v tv := hv.2 0 v tv rfl rfl
            have hv' : VRs ρ D vs tvs := ⟨by have := hv.1; simpa using this, fun j a b ha hb => hv.2 (j + 1) a b (by simpa using ha) (by simpa using hb)⟩
            have hs2 : SR ρ D s1 (t.setIfInBounds p tv) := fun e x hx => by
              by_cases he : e = p
              · subst he
                rw [h1] at hx
                cases hx
                exact ⟨tv, by simp [ht, hlt], hv0⟩
              · rw [h2 e he] at hx
                obtain ⟨u, hu, hr⟩ := hs e x hx
                exact ⟨u, by rw [Array.getElem?_setIfInBounds_ne (Ne.symm he)]; exact hu, hr⟩
            obtain ⟨g1, g2, g3⟩ := setAll_sr h hs2 (by simpa using ht) hv'
            exact ⟨by simpa using g1, by simpa using g2, by simpa using g3⟩
def exOf : Ex → Exit
  | .normal => .normal
  | .ret => .ret
  | .exit id => .exit id
def CQ (w0 : W0) (ρ : Nat → Rb) (st : St) (v : Value) (st' : St) : Ending → World → Prop := fun e w' => ∃ ρ' tv, e = .returned tv ∧ MS w0 ρ' st'.m w' ∧ Le ρ st.m ρ' st'.m ∧ VR ρ' (dom st'.m) v tv
def KQ (w0 : W0) (ρ : Nat → Rb) (m : Tre MO) (N : Nat) (e : Ex) (fr' : Fr) (st' : St) : Exit → Act → World → Prop := fun x a' w' => x = exOf e ∧ ∃ ρ', MS w0 ρ' st'.m w' ∧ Le ρ m ρ' st'.m ∧ FS ρ' (dom st'.m) N fr' a'
theorem KQ.mono {w0 : W0} {ρ ρ1 : Nat → Rb} {m m1 : Tre MO} {N : Nat} {e : Ex} {fr' : Fr} {st' : St} (hL : Le ρ m ρ1 m1) {x : Exit} {a : Act} {w : World} (h : KQ w0 ρ1 m1 N e fr' st' x a w) : KQ w0 ρ m N e fr' st' x a w := by
  obtain ⟨h1, ρ', h2, h3, h4⟩ := h
  exact ⟨h1, ρ', h2, hL.trans h3, h4⟩
structure LOk (P : Program) (CP : Nat → Code → Prop) (L : Lv) : Prop where
  fn : ∀ f args st r, L.call f args st = some r → fnB P f = true
  call : ∀ f args st v st', L.call f args st = some (v, st') → ∀ (w0 : W0) ρ w vs, w0.CP = CP → MS w0 ρ st.m w → VRs ρ (dom st.m) args vs → Calls P f vs.toArray w (CQ w0 ρ st v st')
  code : ∀ f N rd c fr st e fr' st', L.code f N rd c fr st = some (e, fr', st') → ∀ (w0 : W0) ρ w a (ro : Option Nat), w0.CP = CP → CP f c → ro.isSome = rd → MS w0 ρ st.m w → FS ρ (dom st.m) N fr a → c.wpIn (FR ro) 0 P (KQ w0 ρ st.m N e fr' st') a w
  loop : ∀ f N rd c fr st e fr' st', L.code f N rd (.loop c) fr st = some (e, fr', st') → ∃ k, ∀ (w0 : W0) ρ w a (ro : Option Nat), w0.CP = CP → CP f (.loop c) → ro.isSome = rd → MS w0 ρ st.m w → FS ρ (dom st.m) N fr a → Code.roundsIn (FR ro) 0 P c (KQ w0 ρ st.m N e fr' st') k a w
structure COk (C : Cx) : Prop extends TM C.P C.T C.M where
  plOk : C.pl.all (fun f _ => fnB C.P f) = true
  cdOk : C.pl.all (plOkF C.P) = true
  knOk : ∀ f v, C.kn.get f = some v → scB v = true ∧ ∀ w, Calls C.P f #[] w fun e w' => e = .returned v ∧ Below w.heap.size w w'
theorem callFunc_run {P : Program} {f : Nat} (hf : fnB P f = true) (args : Array Value) (w : World) : (callFunc f args).run P w = .ok (.enter f args) w := by
  simp only [fnB] at hf
  split at hf
  · rename_i fn hfn
    simp only [Bool.and_eq_true, bne_iff_ne] at hf
    obtain ⟨c, hc⟩ := Option.isSome_iff_exists.1 hf.2
    simp [callFunc, hfn, hf.1, hc]
  · cases hf
theorem wantV_spec {ρ : Nat → Rb} {D : Nat → Prop} {ops : Array Oper} {s : Tre Value} {o : Oper} {b : Bool} {tmps : Array Value} (h : wantV ops.toList s o = some b) (hs : SR ρ D s tmps) : Region.wanted o (yielded ops tmps) = b := by
  unfold wantV at h
  split at h
  · rename_i hg; cases h; simp [Region.wanted, hg]
  · rename_i g b' hg
    split at h
    · cases h
    rename_i og hog
    split at h
    · cases h
    rename_i t ht
    split at h
    · rename_i c hc
      obtain ⟨v, hv1, hv2⟩ := hs t _ hc
      have e := hv2.scal rfl
      subst e
      have hog' : ops[g]? = some og := by rw [lget_eq] at hog; simpa using hog
      cases b' <;> cases c <;> simp only at h <;> cases h <;> simp [Region.wanted, hg, yielded, hog', ht, hv1]
    · rename_i ar har
      obtain ⟨v, hv1, hv2⟩ := hs t _ har
      obtain ⟨us, rfl, _⟩ := hv2.tuI
      have hog' : ops[g]? = some og := by rw [lget_eq] at hog; simpa using hog
      split at h
      · cases h
        simp [Region.wanted, hg, yielded, hog', ht, hv1]
      · cases h
    · cases h
section
variable {P : Program} {L : Lv} {ρ : Nat → Rb} {st st' : St} {w : World} {w0 : W0} {a : Act} {o : Oper} {s : Tre Value}
theorem yieldE_run {CP : Nat → Code → Prop} (hL : LOk P CP L) (h0 : w0.CP = CP) {l : Nat} {vs tvs : List Value} {v : Value} (h : yieldE L l vs st = some (v, st')) (H : MS w0 ρ st.m w) (hv : VRs ρ (dom st.m) vs tvs) :
    ∃ g tmps as body, (Instr.yield (ρ l).b tvs.toArray).run P w = .ok (.round (ρ l).b g tmps as body) w ∧ RoundIn (FR none) 0 P (ρ l).b g tmps as body w (CQ w0 ρ st v st') := by
  unfold yieldE at h
  split at h
  · rename_i pe f N s ps as body d hl
    split at h
    · cases h
    rename_i s1 hs1
    split at h
    · rename_i fr1 st1 hc1
      split at h
      · rename_i pe2 f2 N2 s2 ps2 as2 body2 d2 hl1
        split at h
        · cases h
        rename_i st2 hst2
        split at h
        · cases h
        rename_i e fr3 st3 hc3
        split at h
        · rename_i stt4 pe4 f4 N4 s4 ps4 as4 body4 d4 hl3
          obtain ⟨g, tmps, h1, h2, h3, h4⟩ := H.obj l _ hl
          obtain ⟨q1, q2, q3⟩ := setAll_sr hs1 h3 h2 hv
          refine ⟨g, _, as, body, run_yield h1 (by simpa using q1.symm), roundIn_of_wpIn trivial ?_⟩
          simp only
          rw [fold_list]
          have hF : FS ρ (dom st.m) N ⟨s1, []⟩ { tmps := (ps.toArray.toList.zip tvs).foldl (fun t (x : Tmp × Value) => t.setIfInBounds x.1 x.2) tmps, defers := [] } := ⟨q3, q2, rfl, fun i hi => by cases hi⟩
          refine Code.wpIn_mono (fun x a1 w1 hq => ?_) (hL.code _ _ _ _ _ _ _ _ _ hc1 w0 ρ w _ (some (ρ l).b) h0 (h0 ▸ (H.cp _ _ hl).1) rfl H hF)
          obtain ⟨rfl, ρ1, H1, L1, F1⟩ := hq
          obtain ⟨g1, t1, k1, k2, k3, k4⟩ := H1.obj l _ hl1
          have hb1 : (ρ1 l).b = (ρ l).b := by rw [(L1 l ⟨_, hl⟩).2]
          rw [hb1] at k1
          refine ⟨_, run_beginRound k1 rfl, ?_⟩
          have hlt1 := (Array.getElem?_eq_some_iff.1 k1).1
          obtain ⟨H2, L2⟩ := H1.put hl1 rfl (putO_spec hst2) (w' := w1.putObj (ρ l).b (.loop { state := .busy, pending := pe2, fn := g1, tmps := t1, params := ps2.toArray, assign := as2, body := body2, defers := (ρ1 d2).b })) rfl rfl rfl (by simp)
            (fun b hb hne => World.putObj_heap_other (by rw [← hb1]; exact hne)) (fun hd => ⟨g1, t1, by rw [hb1]; exact World.putObj_heap_same hlt1, k2, k3.mono (fun j hj => ⟨hd j hj, rfl⟩), hd _ k4⟩) (hc := by have := H1.cp _ _ hl1; exact this)
          refine Code.wpIn_mono (fun x a3 w3 hq => ?_) (hL.code _ _ _ _ _ _ _ _ _ hc3 w0 ρ1 _ a1 (some (ρ l).b) h0 (h0 ▸ (H.cp _ _ hl).2) rfl H2 (F1.mono L2))
          obtain ⟨rfl, ρ3, H3, L3, F3⟩ := hq
          obtain ⟨g3, t3, m1, m2, m3, m4⟩ := H3.obj l _ hl3
          have hL13 : Le ρ st.m ρ3 st3.m := (L1.trans L2).trans L3
          have hb3 : (ρ3 l).b = (ρ l).b := by rw [(hL13 l ⟨_, hl⟩).2]
          rw [hb3] at m1
          have hlt3 := (Array.getElem?_eq_some_iff.1 m1).1
          have fin : ∀ (jump : Option Code) (stt' : LoopState) (r : St), stt' = (if jump.isNone then .ready else .done) → putO st3 l (.lp stt' jump f4 N4 s4 ps4 as4 body4 d4) = some r →
              ∃ v w', (Instr.endRound (ρ l).b jump).run P w3 = .ok v w' ∧ CQ w0 ρ st (.bool jump.isNone) r (.returned v) w' := fun jump stt' r hst hr => by
            obtain ⟨H4, L4⟩ := H3.put hl3 rfl (putO_spec hr) (w' := w3.putObj (ρ l).b (.loop { state := stt', pending := jump, fn := g3, tmps := t3, params := ps4.toArray, assign := as4, body := body4, defers := (ρ3 d4).b })) rfl rfl rfl (by simp)
              (fun b hb hne => World.putObj_heap_other (by rw [← hb3]; exact hne)) (fun hd => ⟨g3, t3, by rw [hb3]; exact World.putObj_heap_same hlt3, m2, m3.mono (fun j hj => ⟨hd j hj, rfl⟩), hd _ m4⟩) (hc := by have := H3.cp _ _ hl3; exact this)
            subst hst
            exact ⟨_, _, run_endRound jump m1, ρ3, _, rfl, H4, hL13.trans L4, .sc rfl⟩
          cases e with
          | normal =>
            simp only at h
            obtain ⟨r, hr, e0⟩ := Option.map_eq_some_iff.1 h
            cases e0
            exact fin none _ _ rfl hr
          | ret =>
            simp only at h
            obtain ⟨r, hr, e0⟩ := Option.map_eq_some_iff.1 h
            cases e0
            exact fin (some .ret) _ _ rfl hr
          | exit id =>
            simp only at h
            obtain ⟨r, hr, e0⟩ := Option.map_eq_some_iff.1 h
            cases e0
            exact fin (some (.exit id)) _ _ rfl hr
        · cases h
      · cases h
    · cases h
  · cases h
theorem callE_run {CP : Nat → Code → Prop} (hL : LOk P CP L) (h0 : w0.CP = CP) {v : Value} (h : callE L s st o.op = some (v, st')) (H : MS w0 ρ st.m w) (hs : SR ρ (dom st.m) s a.tmps) {K : Act → World → Prop} {Q : Exit → Act → World → Prop}
    (hK : ∀ ρ' tv w', MS w0 ρ' st'.m w' → Le ρ st.m ρ' st'.m → VR ρ' (dom st'.m) v tv → K (a.put o.dst tv) w') : wpX P o a w K Q := by
  cases ho : o.op <;> rw [ho] at h <;> simp only [callE, reduceCtorEq] at h
  case call c =>
    obtain ⟨callee, xs, ts⟩ := c
    cases callee with
    | builtin b => simp [callE] at h
    | invoke r mth => simp [callE] at h
    | value f =>
      simp only [callE] at h
      split at h
      · rename_i fn cs ds hf
        split at h
        · cases h
        rename_i vs hvs
        have hfv := lk_eval hs hf
        have hxs := lks_eval hs hvs
        have e1 : xs.map a.eval = (xs.toList.map a.eval).toArray := by rw [← Array.toList_map]
        generalize hev : a.eval f = fv at *
        split at h
        · rename_i g
          cases hfv with
          | sc hc => simp [scB] at hc
          | @fn _ _ us _ ws hl1 hh1 hl2 hh2 =>
            have hargs : VRs ρ (dom st.m) (cs.toList ++ vs ++ ds.toList) (us.toList ++ xs.toList.map a.eval ++ ws.toList) :=
              (VRs.append ⟨by simpa using hl1, fun j x y hx hy => hh1 j x y (by simpa using hx) (by simpa using hy)⟩ hxs).append ⟨by simpa using hl2, fun j x y hx hy => hh2 j x y (by simpa using hx) (by simpa using hy)⟩
            have hrun : (execOp a.eval o).run P w = .ok (.enter g (us.toList ++ xs.toList.map a.eval ++ ws.toList).toArray) w := by
              simp only [execOp, ho, resolve, Deferred.ofValue, hev, Sem.run_bind, Sem.run_pure, Result.andThen_ok, invoke, callFunc_run (hL.fn _ _ _ _ h)]
              congr 2
              apply Array.ext'
              simp
            unfold wpX
            rw [hrun, Oper.uponIn_enter]
            refine ⟨fun h => (by cases h), callsIn_wide.2 ((hL.call _ _ _ _ _ h w0 ρ w _ h0 H hargs).mono ?_)⟩
            rintro e w' ⟨ρ', tv, rfl, h1, h2, h3⟩
            exact hK ρ' tv w' h1 h2 h3
        · rename_i l
          cases hfv with
          | sc hc => simp [scB] at hc
          | yl hD =>
            obtain ⟨g, tmps, as, body, hy, hr⟩ := yieldE_run hL h0 h H hxs
            have hrun : (execOp a.eval o).run P w = .ok (.round (ρ l).b g tmps as body) w := by
              simp only [execOp, ho, resolve, Deferred.ofValue, hev, Sem.run_bind, Sem.run_pure, Result.andThen_ok, invoke]
              rw [← hy]
              congr 2
              apply Array.ext'
              simp
            unfold wpX
            rw [hrun, Oper.uponIn_round]
            refine ⟨fun h => (by cases h), hr.mono ?_⟩
            rintro e w' ⟨ρ', tv, rfl, h1, h2, h3⟩
            exact hK ρ' tv w' h1 h2 h3
        · cases h
      · cases h
end
end
end Go.Ev
