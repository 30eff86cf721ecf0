/- The machine for closed calls is right: whole calls. -/
import Derived.Test.YtilhflfbbfeakaaEv7
namespace Go.Ev
open Go Go.RowKit Go.Tl
set_option linter.unusedVariables false
set_option linter.unusedSimpArgs false
noncomputable section
section
variable {P : Program} {L : Lv} {ρ : Nat → Rb} {st st' : St} {w : World} {w0 : W0} {a : Act} {s : Tre Value} {N : Nat}
theorem rangeE_run {CP : Nat → Code → Prop} (hL : LOk P CP L) (h0 : w0.CP = CP) {f : Nat} {g : Operand} {ps : Array Tmp} {as body : Code} {fr fr' : Fr} {e : Ex} (hcp : CP f as ∧ CP f body) (h : rangeE L f N g ps.toList as body fr st = some (e, fr', st')) (H : MS w0 ρ st.m w) (F : FS ρ (dom st.m) N fr a) :
    (Code.rangeFunc g ps as body).wpIn (FR none) 0 P (KQ w0 ρ st.m N e fr' st') a w := by
  unfold rangeE at h
  split at h
  · rename_i hf cs ds hg
    split at h
    · cases h
    rename_i d st1 hd
    split at h
    · cases h
    rename_i l st2 hl
    split at h
    · cases h
    rename_i v st3 hcall
    split at h
    · rename_i stt pe f3 N3 s3 ps3 as3 body3 d3 hl3
      refine wpIn_rangeFunc (F := FR none) ?_
      intro fn _
      obtain ⟨ed, hd1, hd2⟩ := newO_spec hd
      obtain ⟨el, hl1, hl2⟩ := newO_spec hl
      rw [← ed] at hd1 hd2
      rw [← el] at hl1 hl2
      obtain ⟨H1, L1⟩ := H.new (x := .deferred (some [])) (κ := 0) (sz := 0) hd1 hd2 (fun hLe => by show (w.alloc _).heap[_]? = _; rw [upd_same]; exact heap_alloc_new w _)
      obtain ⟨ρ1, hρ1⟩ : ∃ ρ1, ρ1 = upd ρ d ⟨w.heap.size, 0, 0⟩ := ⟨_, rfl⟩
      rw [← hρ1] at H1 L1
      have hdb : (ρ1 d).b = w.heap.size := by rw [hρ1, upd_same]
      have hdd : dom st1.m d := (dom_set hd2 d).2 (.inr rfl)
      have F1 := F.mono L1
      obtain ⟨W1, hW1⟩ : ∃ W1, W1 = (w.alloc (.deferred (some []))).alloc (.loop { state := .ready, pending := none, fn := fn, tmps := a.tmps, params := ps, assign := as, body := body, defers := w.heap.size }) := ⟨_, rfl⟩
      have hld : l ≠ d := fun e => by subst e; obtain ⟨x, hx⟩ := hdd; rw [hl1] at hx; cases hx
      obtain ⟨H2, L2⟩ := H1.new (x := .loop { state := .ready, pending := none, fn := fn, tmps := a.tmps, params := ps, assign := as, body := body, defers := w.heap.size }) (κ := 0) (sz := 0) hl1 hl2 (fun hLe => by
        refine ⟨fn, a.tmps, ?_, F.size, F1.sl.mono hLe, (hLe d hdd).1⟩
        rw [upd_same, upd_other (Ne.symm hld), hdb]
        simp only [Array.toArray_toList]
        exact heap_alloc_new (w.alloc (.deferred (some []))) _) (hc := h0 ▸ hcp)
      obtain ⟨ρ2, hρ2⟩ : ∃ ρ2, ρ2 = upd ρ1 l ⟨(w.alloc (.deferred (some []))).heap.size, 0, 0⟩ := ⟨_, rfl⟩
      rw [← hρ2, ← hW1] at H2
      rw [← hρ2] at L2
      have hsz : (w.alloc (.deferred (some []))).heap.size = w.heap.size + 1 := by simp
      have hlb : (ρ2 l).b = w.heap.size + 1 := by rw [hρ2, upd_same]; exact hsz
      have hld2 : dom st2.m l := (dom_set hl2 l).2 (.inr rfl)
      have L12 : Le ρ st.m ρ2 st2.m := L1.trans L2
      have hgv := (lk_eval F.sl hg).mono L12
      have hdb2 : (ρ2 d).b = w.heap.size := by rw [(L2 d hdd).2, hdb]
      generalize hev : a.eval g = gv at *
      cases hgv with
      | sc hc => simp [scB] at hc
      | @fn _ _ us _ ws hl1' hh1 hl2' hh2 =>
        have hargs : VRs ρ2 (dom st2.m) (cs.toList ++ [.func (.yield l) #[] #[]] ++ ds.toList) (us.toList ++ [.func (.yield (w.heap.size + 1)) #[] #[]] ++ ws.toList) := by
          refine (VRs.append ⟨by simpa using hl1', fun j x y hx hy => hh1 j x y (by simpa using hx) (by simpa using hy)⟩ (.cons ?_ .nil)).append ⟨by simpa using hl2', fun j x y hx hy => hh2 j x y (by simpa using hx) (by simpa using hy)⟩
          have := VR.yl (ρ := ρ2) hld2
          rwa [hlb] at this
        refine ⟨w.heap.size + 1, [markD w.heap.size], W1, { target := .fn (.func hf) ws, args := us ++ #[.func (.yield (w.heap.size + 1)) #[] #[]] }, W1, hf, (us.toList ++ [Value.func (.yield (w.heap.size + 1)) #[] #[]] ++ ws.toList).toArray, W1, ?_, ?_, fun _ _ => trivial, ?_, fun h => (by cases h), ?_⟩
        · rw [hW1]; exact run_enterLoop_outer _ _ _ _ _
        · simp only [resolve, hev]
          simp [Deferred.ofValue, Act.eval]
        · simp only [invoke, callFunc_run (hL.fn _ _ _ _ hcall)]
          congr 2
          apply Array.ext'
          simp
        refine callsIn_wide.2 ((hL.call _ _ _ _ _ hcall w0 ρ2 W1 _ h0 H2 hargs).mono ?_)
        rintro en w3 ⟨ρ3, tv, rfl, H3, L3, _⟩
        obtain ⟨g3, t3, m1, m2, m3, m4⟩ := H3.obj l _ hl3
        have hb3 : (ρ3 l).b = w.heap.size + 1 := by rw [(L3 l hld2).2, hlb]
        rw [hb3] at m1
        have hd3 : (ρ3 d).b = w.heap.size := by rw [(L3 d (L2 d hdd).1).2, hdb2]
        have hlt3 := (Array.getElem?_eq_some_iff.1 m1).1
        have main : ∀ (st4 : St), stt ≠ .busy → putO st3 l .dead = some st4 → ∃ w4, (Instr.endLoop (w.heap.size + 1)).run P w3 = .ok pe w4 ∧ MS w0 ρ3 st4.m w4 ∧ FS ρ3 (dom st4.m) N ⟨fr.s, d :: fr.ds⟩ { a with defers := [markD w.heap.size] ++ a.defers } ∧ Le ρ st.m ρ3 st4.m := fun st4 hst h4 => by
          refine ⟨_, run_endLoop m1 hst, ?_⟩
          obtain ⟨H4, L4⟩ := H3.put hl3 rfl (putO_spec h4) (w' := w3.putObj (w.heap.size + 1) (.loop { state := .exhausted, pending := pe, fn := g3, tmps := t3, params := ps3.toArray, assign := as3, body := body3, defers := (ρ3 d3).b })) rfl rfl rfl (by simp)
            (fun b hb hne => World.putObj_heap_other (by rw [← hb3]; exact hne)) (fun _ => trivial)
          have LL : Le ρ st.m ρ3 st4.m := (L12.trans L3).trans L4
          have F4 := F.mono LL
          refine ⟨H4, ⟨F4.size, F4.sl, ?_, fun i hi => ?_⟩, LL⟩
          · rw [F4.df]
            simp [hd3]
          · rcases List.mem_cons.1 hi with rfl | hi
            · exact (L4 _ (L3 _ (L2 _ hdd).1).1).1
            · exact F4.dd i hi
        have fin : ∀ st4, stt ≠ .busy → putO st3 l .dead = some st4 → jumpE pe ⟨fr.s, d :: fr.ds⟩ st4 = some (e, fr', st') → rangePost (FR none) 0 P (w.heap.size + 1) (KQ w0 ρ st.m N e fr' st') { a with defers := [markD w.heap.size] ++ a.defers } (.returned tv) w3 := fun st4 hst h4 h => by
          obtain ⟨w4, hrun, H4, F4, L4⟩ := main st4 hst h4
          refine ⟨pe, w4, hrun, ?_⟩
          unfold jumpE at h
          split at h
          · cases h
            exact ⟨rfl, ρ3, H4, L4, F4⟩
          · cases h
            exact wpIn_ret ⟨rfl, ρ3, H4, L4, F4⟩
          · cases h
            exact wpIn_exit ⟨rfl, ρ3, H4, L4, F4⟩
          · cases h
        split at h
        · cases h
        · rename_i hnb
          split at h
          · cases h
          rename_i st4 h4
          refine fin st4 (fun e => ?_) h4 h
          first | exact hnb e | (subst e; exact hnb rfl)
    · cases h
  · cases h
theorem shutE_run {F : Fence} {fn : Func} {tmps : Array Value} {R : Ending → World → Prop} {st2 : St} : ∀ {ds : List Nat} {st : St} {w : World}, shutE ds st = some st2 → MS w0 ρ st.m w →
    (∀ w', MS w0 ρ st2.m w' → Le ρ st.m ρ st2.m → ∃ v, (results fn tmps).run P w' = .ok v w' ∧ R (.returned v) w') → LeavesInM F 0 P fn tmps R (ds.map fun i => markD (ρ i).b) .returning w
  | [], st, w, h, H, hR => by
    simp only [shutE, Option.some.injEq] at h
    subst h
    exact hR w H .refl
  | d :: ds, st, w, h, H, hR => by
    simp only [shutE] at h
    split at h
    · rename_i hd
      split at h
      · cases h
      rename_i st1 h1
      have ho : w.heap[(ρ d).b]? = some (.deferred (some [])) := H.obj d _ hd
      obtain ⟨H1, L1⟩ := H.put hd rfl (putO_spec h1) (w' := w.putObj (ρ d).b (.deferred none)) rfl rfl rfl (by simp) (fun b hb hne => World.putObj_heap_other hne) (fun _ => trivial)
      exact ⟨by simp, .inl ⟨(ρ d).b, _, rfl, run_takeDeferred ho, shutE_run h H1 (fun w' h1 h2 => hR w' h1 (L1.trans h2))⟩⟩
    · cases h
theorem resE_run {T : TD} (X : TX P T) {tmps : Array Value} {m : Tre MO} (H : MS w0 ρ m w) (hs : SR ρ (dom m) s tmps) : ∀ {rvs : List ResultVar} {vs : List Value}, resE T m s rvs = some vs → ∃ tvs, (rvs.mapM (rvGet tmps)).run P w = .ok tvs w ∧ VRs ρ (dom m) vs tvs
  | [], vs, h => by
    simp only [resE, Option.some.injEq] at h
    subst h
    exact ⟨[], by simp, .nil⟩
  | .tmp t :: rvs, vs, h => by
    simp only [resE] at h
    split at h
    · cases h
    rename_i v hv
    split at h
    · cases h
    rename_i us hus
    cases h
    obtain ⟨tv, h1, h2⟩ := hs t _ hv
    obtain ⟨tvs, h3, h4⟩ := resE_run X H hs hus
    refine ⟨tv :: tvs, ?_, .cons h2 h4⟩
    rw [List.mapM_cons, Sem.run_bind, show (rvGet tmps (.tmp t)).run P w = .ok tv w by simp [rvGet, h1], Result.andThen_ok, Sem.run_bind, h3, Result.andThen_ok, Sem.run_pure]
  | .cell c t :: rvs, vs, h => by
    simp only [resE] at h
    split at h
    · rename_i i off hc
      split at h
      · cases h
      rename_i n ag ht
      split at h
      · rename_i T' sz ex cs hmi
        split at h
        · cases h
        rename_i v hv
        split at h
        · cases h
        rename_i us hus
        cases h
        obtain ⟨xs, h1, h2, h3, h4, h5, h6, h8, h7⟩ := H.obj i _ hmi
        obtain ⟨jj, d, hj, hjn, hne, hu, hd⟩ := X.siz_at ht
        obtain ⟨tvs, h9, h10⟩ := resE_run X H hs hus
        obtain ⟨pv, hp1, hp2⟩ := hs c _ hc
        have key : ∃ tv, VR ρ (dom m) v tv ∧ (rvGet tmps (.cell c t)).run P w = .ok tv w := by
          cases hp2 with
          | sc hc => simp [scB] at hc
          | ptr hD =>
            unfold partL at hv
            cases ag with
            | true =>
              simp only [cond_true] at hv
              cases hb : Nat.ble (off + n) cs.length with
              | false => rw [hb] at hv; simp at hv
              | true =>
                rw [hb] at hv
                have hle := Nat.le_of_ble_eq_true hb
                simp only [cond_true, Option.some.injEq] at hv
                subst hv
                have hr := (h7.drop off).take n
                refine ⟨.agg (((xs.take cs.length).drop off).take n).toArray, .agL hr, ?_⟩
                have hl : (((xs.take cs.length).drop off).take n).length = n := by rw [← hr.1]; simp; omega
                have := run_loadCells' (P := P) (w := w) (b := (ρ i).b) (o := off) (vs := ((xs.take cs.length).drop off).take n) (fun q u hq => by
                  rw [List.getElem?_take] at hq
                  split at hq
                  · rw [List.getElem?_drop, List.getElem?_take] at hq
                    split at hq
                    · simp [World.cell?, h1, hq]
                    · cases hq
                  · cases hq)
                rw [hl] at this
                simp [rvGet, hp1, asAddr, loadVar, run_isAgg' hu, hd, run_sizeOf' hj, hjn, this]
            | false =>
              simp only [cond_false] at hv
              obtain ⟨tv, g1, g2⟩ := h7.get hv
              refine ⟨tv, g2, ?_⟩
              rw [List.getElem?_take] at g1
              split at g1
              · have hc : w.cell? ⟨(ρ i).b, off, none⟩ = some tv := by simp [World.cell?, h1, g1]
                simp [rvGet, hp1, asAddr, loadVar, run_isAgg' hu, hd, hc]
              · cases g1
        obtain ⟨tv, k1, k2⟩ := key
        refine ⟨tv :: tvs, ?_, .cons k1 h10⟩
        rw [List.mapM_cons, Sem.run_bind, k2, Result.andThen_ok, Sem.run_bind, h9, Result.andThen_ok, Sem.run_pure]
      · cases h
    · cases h
theorem results_ev {T : TD} (X : TX P T) {tmps : Array Value} {m : Tre MO} (H : MS w0 ρ m w) (hs : SR ρ (dom m) s tmps) {fn : Func} {vs : List Value} (h : resE T m s fn.results.toList = some vs) : ∃ tv, (results fn tmps).run P w = .ok tv w ∧ VR ρ (dom m) (resV vs) tv := by
  obtain ⟨tvs, hrun, hv⟩ := resE_run X H hs h
  have e : fn.results = fn.results.toList.toArray := by simp
  refine ⟨if h : tvs.toArray.size = 1 then tvs.toArray[0] else .tuple tvs.toArray, ?_, ?_⟩
  · rw [results_eq, e]
    simp only [List.mapM_toArray, Sem.run_bind, Sem.run_map]
    rw [hrun]
    simp
  · match vs, tvs, hv with
    | [], [], hv => exact .tuL hv
    | [y], [v], hv => exact hv.2 0 y v rfl rfl
    | y :: y' :: ys, v :: v' :: vs, hv =>
      simp only [List.size_toArray, List.length_cons, Nat.add_eq_right]
      exact .tuL hv
    | [], v :: vs, hv => have := hv.1; simp at this
    | [y], [], hv => have := hv.1; simp at this
    | [y], v :: v' :: vs, hv => have := hv.1; simp at this
    | y :: y' :: ys, [], hv => have := hv.1; simp at this
    | y :: y' :: ys, [v], hv => have := hv.1; simp at this
theorem fold_same {t : Array Value} : ∀ {ps : List Nat} {vs : List Value}, (∀ (j : Nat) (p : Nat) (v : Value), ps[j]? = some p → vs[j]? = some v → t[p]? = some v) → (ps.zip vs).foldl (fun t (x : Nat × Value) => t.setIfInBounds x.1 x.2) t = t
  | [], vs, h => rfl
  | p :: ps, [], h => rfl
  | p :: ps, v :: vs, h => by
    have h0 := h 0 p v rfl rfl
    have e : t.setIfInBounds p v = t := by
      apply Array.ext_getElem?
      intro j
      rw [Array.getElem?_setIfInBounds]
      split
      · rename_i e
        subst e
        have := (Array.getElem?_eq_some_iff.1 h0).1
        rw [h0]
        simp [this]
      · rfl
    simp only [List.zip_cons_cons, List.foldl_cons, e]
    exact fold_same (fun j p v hp hv => h (j + 1) p v (by simpa using hp) (by simpa using hv))
theorem setAll_lt : ∀ {ps : List Nat} {vs : List Value} {s s' : Tre Value}, setAll N s ps vs = some s' → ∀ p ∈ ps, p < N
  | [], vs, s, s', h => fun p hp => by cases hp
  | q :: ps, [], s, s', h => by simp [setAll] at h
  | q :: ps, v :: vs, s, s', h => fun p hp => by
    simp only [setAll] at h
    cases hb : Nat.blt q N with
    | false => rw [hb] at h; simp at h
    | true =>
      rw [hb] at h
      simp only [cond_true, fz_eq] at h
      split at h
      · cases h
      · rcases List.mem_cons.1 hp with rfl | hp
        · exact blt_iff' hb
        · exact setAll_lt h p hp
theorem args_sr {D : Nat → Prop} {args vs : List Value} (h : setAll N .e (List.range args.length) args = some s) (hv : VRs ρ D args vs) : SR ρ D s (vs.toArray ++ Array.replicate (N - vs.toArray.size) undef) ∧ (vs.toArray ++ Array.replicate (N - vs.toArray.size) undef).size = N := by
  have hlen := hv.1
  have hle : vs.length ≤ N := by
    rcases Nat.eq_zero_or_pos args.length with h0 | h0
    · omega
    · have := setAll_lt h (args.length - 1) (by simp; omega)
      omega
  have hsz : (vs.toArray ++ Array.replicate (N - vs.toArray.size) undef).size = N := by simp; omega
  obtain ⟨_, g1, _⟩ := setAll_sr (ρ := ρ) (D := D) (t := vs.toArray ++ Array.replicate (N - vs.toArray.size) undef) h (fun d x hx => by rw [Tre.get_e] at hx; cases hx) hsz hv
  rw [fold_same (fun j p v hp hv' => by
    have hj : j < vs.length := (List.getElem?_eq_some_iff.1 hv').1
    rw [List.getElem?_range (by omega)] at hp
    cases hp
    rw [Array.getElem?_append_left (by simpa using hj)]
    simpa using hv')] at g1
  exact ⟨g1, hsz⟩
end
section
variable {C : Cx} {L : Lv}
theorem callF_run (X : COk C) (hL : LOk C.P (CPC C) L) {f : Nat} {args : List Value} {st st' : St} {v : Value} (h : callF C L f args st = some (v, st')) {w0 : W0} {ρ : Nat → Rb} {w : World} {vs : List Value} (h0 : w0.CP = CPC C) (H : MS w0 ρ st.m w) (hv : VRs ρ (dom st.m) args vs) :
    Calls C.P f vs.toArray w (CQ w0 ρ st v st') := by
  unfold callF at h
  split at h
  · cases h
  rename_i pl hpl
  split at h
  · rename_i kv hkn
    obtain ⟨k1, k2⟩ := X.knOk _ _ hkn
    unfold knownE at h
    split at h
    · simp only [Option.some.injEq, Prod.mk.injEq] at h
      obtain ⟨rfl, rfl⟩ := h
      have : vs = [] := List.length_eq_zero_iff.1 hv.1.symm
      subst this
      refine (k2 w).mono ?_
      rintro e w' ⟨rfl, hb⟩
      exact ⟨ρ, kv, rfl, H.grow hb.os hb.tape hb.output hb.size (fun b hb' => hb.block b hb'), .refl, .sc k1⟩
    · cases h
  unfold callB at h
  split at h
  · cases h
  rename_i fn hfn
  split at h
  · cases h
  rename_i c hc
  split at h
  · cases h
  rename_i s hs
  split at h
  · cases h
  rename_i e fr st1 hcode
  obtain ⟨g1, g2⟩ := args_sr hs hv
  have hcd : CPC C f c := ⟨pl, hpl, by
    have := Tre.all_get _ _ X.cdOk _ _ hpl
    simpa only [plOkF, hfn, hc] using this⟩
  refine (callsIn_wide (n := 0)).1 (callsIn_of_wp_marks hfn hc trivial ?_)
  have F : FS ρ (dom st.m) fn.ntmps ⟨s, []⟩ { tmps := vs.toArray ++ Array.replicate (fn.ntmps - vs.toArray.size) undef, defers := [] } := ⟨g2, g1, rfl, fun i hi => by cases hi⟩
  refine Code.wpIn_mono (fun x a' w' hq => ?_) (hL.code _ _ _ _ _ _ _ _ _ hcode w0 ρ w _ none h0 hcd rfl H F)
  obtain ⟨rfl, ρ1, H1, L1, F1⟩ := hq
  have fin : ∀ (st2 : St) (us : List Value), shutE fr.ds st1 = some st2 → resE C.T st2.m fr.s fn.results.toList = some us → v = resV us → st' = st2 → LeavesInM Fence.wide 0 C.P fn a'.tmps (CQ w0 ρ st v st') a'.defers .returning w' := fun st2 us h2 h3 hv' hst => by
    rw [F1.df]
    refine shutE_run h2 H1 (fun w2 H2 L2 => ?_)
    obtain ⟨tv, k1, k2⟩ := results_ev X.toTM.toTX H2 (F1.sl.mono L2) h3
    subst hv'; subst hst
    exact ⟨tv, k1, ρ1, tv, rfl, H2, L1.trans L2, k2⟩
  cases e with
  | normal =>
    simp only at h
    split at h
    · cases h
    rename_i st2 h2
    split at h
    · cases h
    rename_i us h3
    cases h
    exact fin _ us h2 h3 rfl rfl
  | ret =>
    simp only at h
    split at h
    · cases h
    rename_i st2 h2
    split at h
    · cases h
    rename_i us h3
    cases h
    exact fin _ us h2 h3 rfl rfl
  | exit id => simp at h
theorem loopF_run (hL : LOk C.P (CPC C) L) {f N : Nat} {rd : Bool} {c : Code} {fr fr' : Fr} {st st' : St} {e : Ex} (h : codeF C L f N rd (.loop c) fr st = some (e, fr', st')) :
    ∃ k, ∀ (w0 : W0) ρ w a (ro : Option Nat), w0.CP = CPC C → CPC C f (.loop c) → ro.isSome = rd → MS w0 ρ st.m w → FS ρ (dom st.m) N fr a → Code.roundsIn (FR ro) 0 C.P c (KQ w0 ρ st.m N e fr' st') k a w := by
  simp only [codeF] at h
  split at h
  · rename_i fr1 st1 h1
    obtain ⟨k, hk⟩ := hL.loop _ _ _ _ _ _ _ _ _ h
    refine ⟨k + 1, fun w0 ρ w a ro h0 hcp hro H F => ?_⟩
    rw [roundsIn_succ]
    refine Code.wpIn_mono (fun x a' w' hq => ?_) (hL.code _ _ _ _ _ _ _ _ _ h1 w0 ρ w a ro h0 hcp hro H F)
    obtain ⟨rfl, ρ1, H1, L1, F1⟩ := hq
    have := hk w0 ρ1 w' a' ro h0 hcp hro H1 F1
    have mono : ∀ (k : Nat) (a : Act) (w : World), Code.roundsIn (FR ro) 0 C.P c (KQ w0 ρ1 st1.m N e fr' st') k a w → Code.roundsIn (FR ro) 0 C.P c (KQ w0 ρ st.m N e fr' st') k a w := by
      intro k
      induction k with
      | zero => exact fun a w h => h.elim
      | succ k ih =>
        intro a w h
        rw [roundsIn_succ] at h ⊢
        refine Code.wpIn_mono (fun x a' w' hq => ?_) h
        cases x with
        | normal => exact ih a' w' hq
        | _ => exact KQ.mono L1 hq
    exact mono k a' w' this
  · rename_i r hr
    refine ⟨1, fun w0 ρ w a ro h0 hcp hro H F => ?_⟩
    rw [roundsIn_succ]
    refine Code.wpIn_mono (fun x a' w' hq => ?_) (hL.code _ _ _ _ _ _ _ _ _ h w0 ρ w a ro h0 hcp hro H F)
    obtain ⟨hx, rest⟩ := hq
    cases e with
    | normal => exact absurd h (hr _ _)
    | ret => subst hx; exact ⟨rfl, rest⟩
    | exit id => subst hx; exact ⟨rfl, rest⟩
theorem codeF_run (X : COk C) (hL : LOk C.P (CPC C) L) (hG : LgL L) {f N : Nat} {rd : Bool} {c : Code} {fr fr' : Fr} {st st' : St} {e : Ex} (h : codeF C L f N rd c fr st = some (e, fr', st')) {w0 : W0} {ρ : Nat → Rb} {w : World} {a : Act} {ro : Option Nat} (h0 : w0.CP = CPC C) (hcp : CPC C f c) (hro : ro.isSome = rd) (H : MS w0 ρ st.m w) (F : FS ρ (dom st.m) N fr a) :
    c.wpIn (FR ro) 0 C.P (KQ w0 ρ st.m N e fr' st') a w := by
  cases c with
  | skip => simp only [codeF, Option.some.injEq, Prod.mk.injEq] at h; obtain ⟨rfl, rfl, rfl⟩ := h; exact wpIn_skip ⟨rfl, ρ, H, .refl, F⟩
  | label l => simp only [codeF, Option.some.injEq, Prod.mk.injEq] at h; obtain ⟨rfl, rfl, rfl⟩ := h; exact wpIn_label ⟨rfl, ρ, H, .refl, F⟩
  | exit id => simp only [codeF, Option.some.injEq, Prod.mk.injEq] at h; obtain ⟨rfl, rfl, rfl⟩ := h; exact wpIn_exit ⟨rfl, ρ, H, .refl, F⟩
  | ret => simp only [codeF, Option.some.injEq, Prod.mk.injEq] at h; obtain ⟨rfl, rfl, rfl⟩ := h; exact wpIn_ret ⟨rfl, ρ, H, .refl, F⟩
  | goto l => simp [codeF] at h
  | refuse why => simp [codeF] at h
  | region id ops draw =>
    simp only [codeF] at h
    split at h
    · cases h
    rename_i fr1 st1 h1
    simp only [Option.some.injEq, Prod.mk.injEq] at h
    obtain ⟨rfl, rfl, rfl⟩ := h
    exact evReg_run X hL hG h0 hcp h1 H F
  | seq x y =>
    simp only [codeF] at h
    obtain ⟨pl, hpl, hpc⟩ := hcp
    simp only [plC, Bool.and_eq_true] at hpc
    refine wpIn_seq ?_
    split at h
    · rename_i fr1 st1 h1
      refine Code.wpIn_mono (fun q a' w' hq => ?_) (hL.code _ _ _ _ _ _ _ _ _ h1 w0 ρ w a ro h0 ⟨pl, hpl, hpc.1⟩ hro H F)
      obtain ⟨rfl, ρ1, H1, L1, F1⟩ := hq
      exact Code.wpIn_mono (fun q a' w' hq => KQ.mono L1 hq) (hL.code _ _ _ _ _ _ _ _ _ h w0 ρ1 w' a' ro h0 ⟨pl, hpl, hpc.2⟩ hro H1 F1)
    · rename_i r hr
      refine Code.wpIn_mono (fun q a' w' hq => ?_) (hL.code _ _ _ _ _ _ _ _ _ h w0 ρ w a ro h0 ⟨pl, hpl, hpc.1⟩ hro H F)
      obtain ⟨hx, rest⟩ := hq
      cases e with
      | normal => exact absurd h (hr _ _)
      | ret => subst hx; exact ⟨rfl, rest⟩
      | exit id => subst hx; exact ⟨rfl, rest⟩
  | cond c x y =>
    simp only [codeF] at h
    obtain ⟨pl, hpl, hpc⟩ := hcp
    simp only [plC, Bool.and_eq_true] at hpc
    split at h
    · rename_i hc
      exact wpIn_cond_true ((lk_eval F.sl hc).scal rfl) (hL.code _ _ _ _ _ _ _ _ _ h w0 ρ w a ro h0 ⟨pl, hpl, hpc.1⟩ hro H F)
    · rename_i hc
      exact wpIn_cond_false ((lk_eval F.sl hc).scal rfl) (hL.code _ _ _ _ _ _ _ _ _ h w0 ρ w a ro h0 ⟨pl, hpl, hpc.2⟩ hro H F)
    · cases h
  | block id b =>
    simp only [codeF] at h
    refine wpIn_block ?_
    split at h
    · rename_i j fr1 st1 h1
      refine Code.wpIn_mono (fun q a' w' hq => ?_) (hL.code _ _ _ _ _ _ _ _ _ h1 w0 ρ w a ro h0 hcp hro H F)
      obtain ⟨rfl, rest⟩ := hq
      simp only [exOf, Exit.inBlock]
      cases hb : Nat.beq j id with
      | true =>
        rw [hb] at h
        simp only [cond_true, Option.some.injEq, Prod.mk.injEq] at h
        obtain ⟨rfl, rfl, rfl⟩ := h
        rw [if_pos (Nat.eq_of_beq_eq_true hb)]
        exact ⟨rfl, rest⟩
      | false =>
        rw [hb] at h
        simp only [cond_false, Option.some.injEq, Prod.mk.injEq] at h
        obtain ⟨rfl, rfl, rfl⟩ := h
        rw [if_neg (fun e => by subst e; simp at hb)]
        exact ⟨rfl, rest⟩
    · rename_i r hr
      refine Code.wpIn_mono (fun q a' w' hq => ?_) (hL.code _ _ _ _ _ _ _ _ _ h w0 ρ w a ro h0 hcp hro H F)
      obtain ⟨hx, rest⟩ := hq
      cases e with
      | normal => subst hx; exact ⟨rfl, rest⟩
      | ret => subst hx; exact ⟨rfl, rest⟩
      | exit id => exact absurd h (hr _ _ _)
  | loop b =>
    obtain ⟨k, hk⟩ := loopF_run hL h
    exact wpIn_loop_rounds k (hk w0 ρ w a ro h0 hcp hro H F)
  | scope b =>
    simp only [codeF] at h
    cases rd with
    | true => simp at h
    | false =>
      simp only [cond_false] at h
      have hro' : ro = none := by cases ro <;> simp_all
      subst hro'
      refine wpIn_wide.2 (wp_scope_straight (Code.wp_mono (fun q a' w' hq => ?_) (wpIn_wide.1 (hL.code _ _ _ _ _ _ _ _ _ h w0 ρ w a none h0 hcp rfl H F))))
      obtain ⟨rfl, rest⟩ := hq
      cases e <;> exact ⟨rfl, rest⟩
  | rangeFunc g ps as body =>
    simp only [codeF] at h
    cases rd with
    | true => simp at h
    | false =>
      simp only [cond_false] at h
      have hro' : ro = none := by cases ro <;> simp_all
      subst hro'
      obtain ⟨pl, hpl, hpc⟩ := hcp
      simp only [plC, Bool.and_eq_true] at hpc
      exact rangeE_run hL h0 ⟨⟨pl, hpl, hpc.1⟩, ⟨pl, hpl, hpc.2⟩⟩ h H F
theorem lv_ok (X : COk C) : ∀ n, LOk C.P (CPC C) (lv C n) := by
  intro n
  induction n with
  | zero => exact ⟨fun f args st r h => (by cases h), fun f args st v st' h => (by cases h), fun f N rd c fr st e fr' st' h => (by cases h), fun f N rd c fr st e fr' st' h => (by cases h)⟩
  | succ n ih =>
    refine ⟨fun f args st r h => ?_, fun f args st v st' h w0 ρ w vs h0 H hv => callF_run X ih h h0 H hv, fun f N rd c fr st e fr' st' h w0 ρ w a ro h0 hcp hro H F => codeF_run X ih (lv_lg C n) h h0 hcp hro H F, fun f N rd c fr st e fr' st' h => loopF_run ih h⟩
    simp only [lv] at h
    unfold callF at h
    split at h
    · cases h
    · rename_i pls hpls
      exact Tre.all_get _ _ X.plOk _ _ hpls
abbrev W0.of (w : World) (CP : Nat → Code → Prop) : W0 := { w := w, CP := CP }
end
end
end Go.Ev
