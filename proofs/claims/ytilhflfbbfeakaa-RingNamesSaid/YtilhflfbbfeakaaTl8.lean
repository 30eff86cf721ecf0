/- Calls over plain trees: what a function comes to, used at its calls, and shown from its body. -/
import Derived.Test.YtilhflfbbfeakaaTl7
import Derived.RangeFuncLeaves
namespace Go.Tl
open Go Go.RowKit
set_option linter.unusedVariables false
set_option linter.unusedSimpArgs false

def Own (hc : List Ent) (g : Nat) : Prop := ∃ e, e ∈ hc ∧ e.blk g
/-- what a call comes to: it may write what it is given (hc), and nothing else that was there -/
def ACall (P : Program) (f : Nat) (args : List AV) (hc : List Ent) (Q : AV → List Ent → Prop) : Prop :=
  ∀ (w : World) (S : Nat → Prop) (vs : List Value), (∀ b, S b → b < w.heap.size) → HRel w S hc → VRels w S args vs →
    Calls P f vs.toArray w fun e w' => ∃ v S' r h', e = .returned v ∧ Q r h' ∧ VRel w' S' r v ∧ Ext ⟨w, S, Own hc⟩ w' S' ∧ (∀ b, S' b → b < w'.heap.size) ∧ HRel w' S' h' ∧ ∀ e ∈ h', ∀ g, e.blk g → Own hc g ∨ w.heap.size ≤ g
/-- a call that only computes -/
def PCall (P : Program) (f : Nat) (args : List AV) (R : AV → Prop) : Prop := ACall P f args [] (fun r h' => R r ∧ h' = [])
theorem ACall.mono {P : Program} {f : Nat} {args : List AV} {hc : List Ent} {Q Q' : AV → List Ent → Prop} (C : ACall P f args hc Q) (h : ∀ r h', Q r h' → Q' r h') : ACall P f args hc Q' := fun w S vs h1 h2 h3 =>
  (C w S vs h1 h2 h3).mono fun e w' ⟨v, S', r, h', e1, hq, rest⟩ => ⟨v, S', r, h', e1, h r h' hq, rest⟩
theorem PCall.mono {P : Program} {f : Nat} {args : List AV} {R R' : AV → Prop} (C : PCall P f args R) (h : ∀ r, R r → R' r) : PCall P f args R' := ACall.mono C fun r h' ⟨h1, h2⟩ => ⟨h r h1, h2⟩

theorem SubH.refl : ∀ l : List Ent, SubH l l
  | [] => .nil
  | x :: l => .cons .here (SubH.refl l)
theorem HRel.left {w : World} {S : Nat → Prop} {hc hf : List Ent} (h : HRel w S (hc ++ hf)) : HRel w S hc :=
  ⟨fun e he => h.ent e (List.mem_append_left _ he), fun e he => h.off e (List.mem_append_left _ he), (List.pairwise_append.1 h.sep).1⟩

/-- a function's value, and what it bears -/
def Callee (y : AV) (f : Nat) (fs cs : List AV) : Prop := ∀ (w : World) (S : Nat → Prop) (v : Value), VRel w S y v → ∃ vs us : List Value, v = .func (.func f) vs.toArray us.toArray ∧ VRels w S fs vs ∧ VRels w S cs us
theorem callee_lit {f : Nat} : Callee (.v (.func (.func f) #[] #[])) f [] [] := fun w S v h => ⟨[], [], h.lit_inv, .nil, .nil⟩
theorem callee_v {f : Nat} {a b : List Value} : Callee (.v (.func (.func f) a.toArray b.toArray)) f (a.map AV.v) (b.map AV.v) := fun w S v h => ⟨a, b, h.lit_inv, .lits _, .lits _⟩
theorem callee_fn {f : Nat} {a b : List AV} : Callee (.fn (.func f) a b) f a b := fun w S v h => by
  cases h with
  | fn hl hh hl' hh' => exact ⟨_, _, rfl, ⟨hl, hh⟩, ⟨hl', hh'⟩⟩

section
variable {P : Program} {N : Nat} {o : Oper} {md : Nat → Prop} {s : Slots} {h h1 : List Ent} {K : Slots → List Ent → Prop}

theorem TT.callFunc_at (T : TT P) {f : Nat} (hf : T.fns.any (Nat.beq f) = true) (args : Array Value) (w : World) : (callFunc f args).run P w = .ok (.enter f args) w := by
  obtain ⟨g, hg, e⟩ := List.any_eq_true.1 hf
  have := Nat.eq_of_beq_eq_true e
  subst this
  have hb := List.all_eq_true.1 T.fnsOk _ hg
  simp only [fnB] at hb
  split at hb
  · rename_i fn hfn
    simp only [Bool.and_eq_true, bne_iff_ne] at hb
    obtain ⟨c, hc⟩ := Option.isSome_iff_exists.1 hb.2
    simp [callFunc, hfn, hb.1, hc]
  · cases hb
theorem Sim.call {B : Base} {w w' : World} {S S' : Nat → Prop} {hc hf h' : List Ent} {a : Act} (hs : Sim B N w S s (hc ++ hf) a) (E : Ext ⟨w, S, Own hc⟩ w' S') (hlt : ∀ b, S' b → b < w'.heap.size) (hr : HRel w' S' h')
    (hl : ∀ e ∈ h', ∀ g, e.blk g → Own hc g ∨ w.heap.size ≤ g) : Sim B N w' S' s (h' ++ hf) a := by
  have ownB : ∀ b, Own hc b → B.O b ∨ B.w.heap.size ≤ b := fun b ⟨e, he, hb⟩ => hs.live e (List.mem_append_left _ he) b hb
  have keepS : ∀ b, S b → w'.heap[b]? = w.heap[b]? := fun b hb => E.keep b (hs.lt b hb) (fun ⟨e, he, h2⟩ => hs.heap.off e (List.mem_append_left _ he) b h2 hb)
  have hfnot : ∀ e ∈ hf, ∀ g, e.blk g → ¬ Own hc g := fun e he g hg ⟨e', he', hg'⟩ => (List.pairwise_append.1 hs.heap.sep).2.2 e' he' e he g hg' hg
  have hflt : ∀ e ∈ hf, ∀ g, e.blk g → g < w.heap.size := fun e he g hg => (hs.heap.ent e (List.mem_append_right _ he)).lt g hg
  have hfkeep : ∀ e ∈ hf, ∀ g, e.blk g → w'.heap[g]? = w.heap[g]? := fun e he g hg => E.keep g (hflt e he g hg) (hfnot e he g hg)
  refine ⟨hs.ext.step E.os E.tape E.output ⟨E.size, E.keep, E.stab⟩ ownB E.new, hs.defs.keep (fun r hr hn => E.keep r hr (fun ⟨e, he, hb⟩ => hn e (List.mem_append_left _ he) hb)) (fun r hr => ?_) (fun e he r hr => ?_), hs.size, hs.slots.mono E.stab keepS, hlt, ⟨fun e he => ?_, fun e he g hg hS => ?_, List.pairwise_append.2 ⟨hr.sep, (List.pairwise_append.1 hs.heap.sep).2.1, fun x hx y hy g hg hg' => ?_⟩⟩, fun e he g hg => ?_, hs.off⟩
  · rcases E.new r hr with h1 | h1 | ⟨e, he, h1⟩
    · exact .inl h1
    · exact .inr (.inl h1)
    · exact .inr (.inr ⟨e, List.mem_append_left _ he, h1⟩)
  · rcases List.mem_append.1 he with he | he
    · rcases hl e he r hr with ⟨e', he', h1⟩ | h1
      · exact .inl ⟨e', List.mem_append_left _ he', h1⟩
      · exact .inr h1
    · exact .inl ⟨e, List.mem_append_right _ he, hr⟩
  · rcases List.mem_append.1 he with he | he
    · exact hr.ent e he
    · exact (hs.heap.ent e (List.mem_append_right _ he)).mono E.os E.tape E.output E.size E.stab keepS (hfkeep e he)
  · rcases List.mem_append.1 he with he | he
    · exact hr.off e he g hg hS
    · rcases E.new g hS with h1 | h1 | h1
      · exact hs.heap.off e (List.mem_append_right _ he) g hg h1
      · have := hflt e he g hg; exact absurd h1 (Nat.not_le.2 this)
      · exact hfnot e he g hg h1
  · rcases hl x hx g hg with h1 | h1
    · exact hfnot y hy g hg' h1
    · have := hflt y hy g hg'; omega
  · rcases List.mem_append.1 he with he | he
    · rcases hl e he g hg with h1 | h1
      · exact ownB g h1
      · exact .inr (Nat.le_trans hs.ext.size h1)
    · exact hs.live e (List.mem_append_right _ he) g hg

theorem aop_acall (T : TT P) {x : Operand} {xs : Array Operand} {ts : Array TypeId} {yc : AV} {f d : Nat} {fs cs ys args : List AV} {hc hf : List Ent} {Q : AV → List Ent → Prop} (ho : o.op = .call { callee := .value x, args := xs, argTypes := ts }) (hd : o.dst = some d) (hN : d < N)
    (hcal : evA s x = some yc) (hcl : Callee yc f fs cs) (hx : xs.toList.map (evA s) = ys.map some) (hfn : T.fns.any (Nat.beq f) = true) (hargs : fs ++ ys ++ cs = args) (hsub : SubH (hc ++ hf) h) (C : ACall P f args hc Q) (hmd : ∀ b, Own hc b → md b)
    (hK : ∀ r h', Q r h' → K ((d, r) :: s) (h' ++ hf)) : AOp P N o md s h K := fun B w S a hs Kr Qr hk => by
  have hs0 : Sim B N w S s (hc ++ hf) a := hs.sub hsub
  obtain ⟨vs, us, hev, hvs, hus⟩ := hcl w S _ (hs.slots.eval hcal)
  have hxs := hs.slots.evals hx
  have hrun : (execOp a.eval o).run P w = .ok (.enter f (vs ++ xs.toList.map a.eval ++ us).toArray) w := by
    have e1 : xs.map a.eval = (xs.toList.map a.eval).toArray := by rw [← Array.toList_map]
    simp [execOp, ho, resolve, Deferred.ofValue, invoke, hev, e1, T.callFunc_at hfn]
  unfold wpX
  rw [hrun, Oper.uponIn_enter]
  subst hargs
  refine ⟨fun h => (by cases h), callsIn_wide.2 ((C w S _ hs.lt hs0.heap.left ((hvs.append hxs).append hus)).mono ?_)⟩
  rintro e w' ⟨v, S', r, h', rfl, hq, hvr, E, hlt, hr, hl⟩
  rw [hd] at hk
  rw [hd]
  exact hk _ _ S' _ _ (hK r h' hq) ((hs0.call E hlt hr hl).put hvr hN) ⟨E.size, fun b hb hnb => E.keep b hb (fun ho => hnb (hmd b ho)), E.stab⟩
theorem aop_pcall (T : TT P) {x : Operand} {xs : Array Operand} {ts : Array TypeId} {yc : AV} {f d : Nat} {fs cs ys args : List AV} {R : AV → Prop} (ho : o.op = .call { callee := .value x, args := xs, argTypes := ts }) (hd : o.dst = some d) (hN : d < N)
    (hcal : evA s x = some yc) (hcl : Callee yc f fs cs) (hx : xs.toList.map (evA s) = ys.map some) (hfn : T.fns.any (Nat.beq f) = true) (hargs : fs ++ ys ++ cs = args) (C : PCall P f args R)
    (hK : ∀ r, R r → K ((d, r) :: s) h) : AOp P N o md s h K :=
  aop_acall T (hc := []) (hf := h) ho hd hN hcal hcl hx hfn hargs (SubH.refl h) C (fun b ⟨e, he, _⟩ => by cases he) (fun r h' ⟨h1, h2⟩ => by subst h2; exact hK r h1)

/-! a function's body -/
def slotsOf : Nat → List AV → Slots
  | _, [] => []
  | k, x :: r => (k, x) :: slotsOf (k + 1) r
theorem slotsOf_rel {w : World} {S : Nat → Prop} : ∀ (k : Nat) (args : List AV) (vs : List Value) (pre post : List Value), pre.length = k → VRels w S args vs → SRel w S (slotsOf k args) (pre ++ vs ++ post).toArray
  | _, [], vs, pre, post, _, _ => fun d x hx => by simp [slotsOf, look] at hx
  | k, x :: r, [], pre, post, _, hv => by have := hv.1; simp at this
  | k, x :: r, v :: vs, pre, post, hk, hv => fun d y hy => by
    simp only [slotsOf, look] at hy
    cases hb : Nat.beq k d with
    | true =>
      rw [hb] at hy
      simp at hy
      subst hy
      have := Nat.eq_of_beq_eq_true hb
      subst this
      exact ⟨v, by simp [← hk], hv.2 0 x v rfl rfl⟩
    | false =>
      rw [hb] at hy
      have := slotsOf_rel (k + 1) r vs (pre ++ [v]) post (by simp [hk]) ⟨by have := hv.1; simpa using this, fun j a b ha hb' => hv.2 (j + 1) a b (by simpa using ha) (by simpa using hb')⟩ d y hy
      simpa using this
/-- one result -/
def resR {P : Program} (T : TT P) (s : Slots) (h : List Ent) (y : AV) : ResultVar → Prop
  | .tmp t => look s t = some y
  | .cell c t => ∃ g T' cs n ag, look s c = some (.v (.pointer (some ⟨g, 0, none⟩))) ∧ f2 T.siz t = some (n, ag) ∧ Mem1 (.cl g T' cs) h ∧ n ≤ cs.length ∧ (ag = true ∨ n = 1) ∧ ldA ag n cs = y
inductive resL {P : Program} (T : TT P) (s : Slots) (h : List Ent) : List ResultVar → List AV → Prop where
  | nil : resL T s h [] []
  | cons {v : ResultVar} {y : AV} {vs : List ResultVar} {ys : List AV} (h1 : resR T s h y v) (h2 : resL T s h vs ys) : resL T s h (v :: vs) (y :: ys)
def resA : List AV → AV
  | [y] => y
  | ys => .tup ys
def rvGet (tmps : Array Value) : ResultVar → Sem Value
  | .tmp t => pure (tmps.getD t undef)
  | .cell c t => do loadVar t (← asAddr (tmps.getD c undef))
theorem results_eq (fn : Func) (tmps : Array Value) : results fn tmps = (do let vs ← fn.results.mapM (rvGet tmps); pure (if h : vs.size = 1 then vs[0] else .tuple vs)) := by
  unfold results
  congr 1
theorem resR_run (T : TT P) {B : Base} {w : World} {S : Nat → Prop} {a : Act} (hs : Sim B N w S s h a) {y : AV} {rv : ResultVar} (hr : resR T s h y rv) :
    ∃ v, (rvGet a.tmps rv).run P w = .ok v w ∧ VRel w S y v := by
  cases rv with
  | tmp t =>
    obtain ⟨v, hv, hvr⟩ := hs.slots t y hr
    exact ⟨v, by simp [rvGet, hv], hvr⟩
  | cell c t =>
    obtain ⟨g, T', cs, n, ag, hc, ht, hm, hl, h1, rfl⟩ := hr
    obtain ⟨u, hu, hur⟩ := hs.slots c _ hc
    have := hur.lit_inv
    subst this
    obtain ⟨vs, hvs, hrel⟩ := hs.heap.ent _ hm.mem
    obtain ⟨j, d, hj, hjn, hne, hund, hd⟩ := T.siz_at ht
    have hl2 : n ≤ vs.length := by rw [← hrel.1]; exact hl
    refine ⟨if ag then .agg (vs.take n).toArray else (vs.take n).getD 0 undef, ?_, ldA_rel hrel hl hne⟩
    have := run_loadVar' T ht (w := w) (b := g) (o := 0) (vs := vs.take n) (by simp; omega) (fun e => h1.resolve_left (by rw [e]; simp)) (fun j v hjv => by
      rw [List.getElem?_take] at hjv
      split at hjv
      · simp [World.cell?, hvs, hjv]
      · cases hjv)
    simp [rvGet, hu, asAddr, this]
theorem resL_run (T : TT P) {B : Base} {w : World} {S : Nat → Prop} {a : Act} (hs : Sim B N w S s h a) {rvs : List ResultVar} {ys : List AV} (hr : resL T s h rvs ys) :
    ∃ vs, (rvs.mapM (rvGet a.tmps)).run P w = .ok vs w ∧ VRels w S ys vs := by
  induction hr with
  | nil => exact ⟨[], by simp, .nil⟩
  | cons h1 h2 ih =>
    obtain ⟨v, hv, hvr⟩ := resR_run T hs h1
    obtain ⟨vs, hvs, hrs⟩ := ih
    exact ⟨v :: vs, by rw [List.mapM_cons, Sem.run_bind, hv, Result.andThen_ok, Sem.run_bind, hvs, Result.andThen_ok, Sem.run_pure], .cons hvr hrs⟩
theorem results_run (T : TT P) {B : Base} {w : World} {S : Nat → Prop} {a : Act} (hs : Sim B N w S s h a) {fn : Func} {ys : List AV} (hr : resL T s h fn.results.toList ys) : ∃ v, (results fn a.tmps).run P w = .ok v w ∧ VRel w S (resA ys) v := by
  obtain ⟨vs, hrun, hv⟩ := resL_run T hs hr
  have e : fn.results = fn.results.toList.toArray := by simp
  refine ⟨if h : vs.toArray.size = 1 then vs.toArray[0] else .tuple vs.toArray, ?_, ?_⟩
  · rw [results_eq, e]
    simp only [List.mapM_toArray, Sem.run_bind, Sem.run_map]
    rw [hrun]
    simp
  · match ys, vs, hv with
    | [], [], hv => exact .tup hv.1 hv.2
    | [y], [v], hv => exact hv.2 0 y v rfl rfl
    | y :: y' :: ys, v :: v' :: vs, hv => 
      simp only [List.size_toArray, List.length_cons, Nat.add_eq_right]
      exact .tup hv.1 hv.2
    | [], v :: vs, hv => have := hv.1; simp at this
    | [y], [], hv => have := hv.1; simp at this
    | [y], v :: v' :: vs, hv => have := hv.1; simp at this
    | y :: y' :: ys, [], hv => have := hv.1; simp at this
    | y :: y' :: ys, [v], hv => have := hv.1; simp at this
/-- what holds behind a function's body -/
def bodyQ {P : Program} (T : TT P) (fn : Func) (Q : AV → List Ent → Prop) : Exit → Slots → List Ent → Prop
  | .ret, s, h => ∃ s1 h1, Ghost s h s1 h1 ∧ ∃ ys, resL T s1 h1 fn.results.toList ys ∧ ∃ h', SubH h' h1 ∧ Q (resA ys) h'
  | .normal, s, h => ∃ s1 h1, Ghost s h s1 h1 ∧ ∃ ys, resL T s1 h1 fn.results.toList ys ∧ ∃ h', SubH h' h1 ∧ Q (resA ys) h'
  | _, _, _ => False
/-- the first mark is come to: its block is shut -/
theorem Sim.shut {B : Base} {w : World} {S : Nat → Prop} {a : Act} {r : Nat} {ds : List Deferred} (hs : Sim B N w S s h { a with defers := markD r :: ds }) :
    (Instr.takeDeferred r).run P w = .ok [] (w.putObj r (.deferred none)) ∧ Sim B N (w.putObj r (.deferred none)) S s h { a with defers := ds } := by
  obtain ⟨rs, hrs, hnd, hr⟩ := hs.defs
  cases rs with
  | nil => simp at hrs
  | cons r' rs =>
    simp only [List.map_cons, List.cons.injEq, markD, Deferred.mk.injEq, Target.collected.injEq, and_true] at hrs
    obtain ⟨rfl, rfl⟩ := hrs
    obtain ⟨h1, h2, h3, h4⟩ := hr r List.mem_cons_self
    have hoth : ∀ b, b ≠ r → (w.putObj r (.deferred none)).heap[b]? = w.heap[b]? := fun b hb => World.putObj_heap_other hb
    have hS : ∀ b, S b → (w.putObj r (.deferred none)).heap[b]? = w.heap[b]? := fun b hb => hoth b (fun e => h2 (e ▸ hb))
    refine ⟨run_takeDeferred h1, ⟨hs.ext.os, hs.ext.tape, hs.ext.output, by simpa using hs.ext.size, fun b hb hO => (hoth b (fun e => by subst e; exact h3.elim hO (fun h => by omega))).trans (hs.ext.keep b hb hO), hs.ext.stab, hs.ext.new⟩,
      ⟨rs, rfl, (List.nodup_cons.1 hnd).2, fun q hq => ?_⟩, hs.size, hs.slots.mono (fun _ h => h) hS, fun b hb => by simpa using hs.lt b hb, ⟨fun e he => ?_, hs.heap.off, hs.heap.sep⟩, hs.live, hs.off⟩
    · obtain ⟨q1, q2, q3, q4⟩ := hr q (List.mem_cons_of_mem _ hq)
      exact ⟨(hoth q (fun e => (List.nodup_cons.1 hnd).1 (e ▸ hq))).trans q1, q2, q3, q4⟩
    · exact (hs.heap.ent e he).mono rfl rfl rfl (by simp) (fun _ h => h) hS (fun g hg => hoth g (fun e0 => h4 e he (e0 ▸ hg)))
theorem Sim.leaves {B : Base} {w : World} {S : Nat → Prop} {a : Act} {F : Fence} {fn : Func} {R : Ending → World → Prop} (hs : Sim B N w S s h a)
    (hR : ∀ w', Sim B N w' S s h { a with defers := [] } → ∃ v, (results fn a.tmps).run P w' = .ok v w' ∧ R (.returned v) w') : LeavesInM F 0 P fn a.tmps R a.defers .returning w := by
  have key : ∀ (rs : List Nat) (w : World), Sim B N w S s h { a with defers := rs.map markD } → LeavesInM F 0 P fn a.tmps R (rs.map markD) .returning w := by
    intro rs
    induction rs with
    | nil => intro w hs; exact hR w hs
    | cons r rs ih =>
      intro w hs
      obtain ⟨h1, h2⟩ := hs.shut (P := P)
      exact ⟨by simp, .inl ⟨r, _, rfl, h1, ih _ h2⟩⟩
  obtain ⟨rs, e, _⟩ := hs.defs
  rw [e]
  exact key rs w (by rw [← e]; exact hs)
theorem acall_of_awp (T : TT P) {f : Nat} {fn : Func} {c : Code} {args : List AV} {hc : List Ent} {Q : AV → List Ent → Prop} (hf : P.funcs[f]? = some fn) (hb : fn.body = some c) (hN : fn.ntmps = N) (hl : Nat.ble args.length N = true)
    (H : AWP P N none c (bodyQ T fn Q) (slotsOf 0 args) hc) : ACall P f args hc Q := fun w S vs hlt hh hv => by
  have hvl : vs.length ≤ N := by rw [← hv.1]; exact Nat.le_of_ble_eq_true hl
  refine (callsIn_wide (n := 0)).1 (callsIn_of_wp_marks hf hb trivial ?_)
  have hsim : Sim ⟨w, S, Own hc⟩ N w S (slotsOf 0 args) hc { tmps := vs.toArray ++ Array.replicate (fn.ntmps - vs.toArray.size) undef, defers := [] } := by
    refine ⟨⟨rfl, rfl, rfl, Nat.le_refl _, fun _ _ _ => rfl, fun _ h => h, fun _ h => .inl h⟩, .nil, by simp [hN]; omega, ?_, hlt, hh, fun e he g hg => .inl ⟨e, he, hg⟩, fun b hb ⟨e, he, hg⟩ => hh.off e he b hg hb⟩
    have := slotsOf_rel 0 args vs [] (List.replicate (fn.ntmps - vs.length) undef) rfl hv
    rw [show vs.toArray ++ Array.replicate (fn.ntmps - vs.toArray.size) undef = ([] ++ vs ++ List.replicate (fn.ntmps - vs.length) undef).toArray from by apply Array.ext'; simp]
    exact this
  refine Code.wpIn_mono (fun e a' w' hq => ?_) (H _ w S _ hsim)
  obtain ⟨S', s', h', hq, hs'⟩ := hq
  have fin : (∃ s1 h1, Ghost s' h' s1 h1 ∧ ∃ ys, resL T s1 h1 fn.results.toList ys ∧ ∃ h'', SubH h'' h1 ∧ Q (resA ys) h'') → LeavesInM Fence.wide 0 P fn a'.tmps (fun e w' => ∃ v S' r h', e = .returned v ∧ Q r h' ∧ VRel w' S' r v ∧ Ext ⟨w, S, Own hc⟩ w' S' ∧ (∀ b, S' b → b < w'.heap.size) ∧ HRel w' S' h' ∧ ∀ e ∈ h', ∀ g, e.blk g → Own hc g ∨ w.heap.size ≤ g) a'.defers .returning w' := by
    rintro ⟨s1, h1, G, ys, hr, h'', hsub, hQ⟩
    obtain ⟨S1, hs1, _⟩ := G _ _ _ _ _ hs'
    refine hs1.leaves (fun w'' hs'' => ?_)
    obtain ⟨v, hv, hvr⟩ := results_run T hs'' hr
    exact ⟨v, hv, v, S1, resA ys, h'', rfl, hQ, hvr, hs''.ext, hs''.lt, hsub.heap hs''.heap, fun e he g hg => hs''.live e (hsub.mem e he) g hg⟩
  cases e with
  | ret => exact fin hq
  | normal => exact fin hq
  | _ => exact hq.elim
end
end Go.Tl
