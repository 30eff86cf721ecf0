/- Joined texts: Arr, Par, Cut. -/
import Derived.Test.YtlpknbneilgjkaaGOb
import Derived.Test.YtlpknbneilgjkaaGTy
section
namespace Go.Proofs.Ytlpknbneilgjkaa
open Go Go.RowKit Go.Tl
set_option linter.unusedVariables false
set_option linter.unusedSimpArgs false
def arrI (d : Nat → Int) (n : Nat) : List AV := (List.range n).map fun i => intA (d i)
theorem arrI_len (d : Nat → Int) (n : Nat) : (arrI d n).length = n := by simp [arrI]
theorem arrI_at {d : Nat → Int} {n k : Nat} (h : k < n) : (arrI d n)[k]? = some (intA (d k)) := by simp [arrI, h]
theorem arrI_set {d d' : Nat → Int} {n k : Nat} {v : Int} (h : k < n) (hd : ∀ q, q < n → d' q = if q = k then v else d q) : spA (arrI d n) k [intA v] = arrI d' n := by
  have e : spA (arrI d n) k [intA v] = (arrI d n).set k (intA v) := by
    unfold spA
    rw [List.set_eq_take_append_cons_drop, if_pos (by rw [arrI_len]; exact h)]
    simp
  rw [e]
  refine List.ext_getElem? fun j => ?_
  rw [List.getElem?_set]
  by_cases hj : j < n
  · rw [arrI_at (d := d') hj, hd j hj]
    by_cases c : k = j
    · subst c; rw [if_pos rfl, if_pos (by rw [arrI_len]; exact h), if_pos rfl]
    · rw [if_neg c, if_neg (fun h => c h.symm), arrI_at hj]
  · rw [List.getElem?_eq_none (l := arrI d' n) (by rw [arrI_len]; omega), List.getElem?_eq_none (l := arrI d n) (by rw [arrI_len]; omega)]
    rw [if_neg (by omega)]
end Go.Proofs.Ytlpknbneilgjkaa
namespace Go.Tl
open Go Go.RowKit Go.Proofs.Ytlpknbneilgjkaa
section
variable {P : Program} {N : Nat} {o : Oper} {md : Nat → Prop} {s : Slots} {h : List Ent} {K : Slots → List Ent → Prop}
theorem st_arrI (T : TT P) {t g k n : Nat} {x y : Operand} {v : Int} {T' : TypeId} {d d' : Nat → Int} {h' : List Ent} (ho : o.op = .store t x y) (hx : evA s x = some (.v (.pointer (some ⟨g, k, none⟩)))) (hy : evA s y = some (intA v))
    (ht : f2 T.siz t = some (1, false)) (hd : o.dst = none) (hp : Repl h (.cl g T' (arrI d n)) (.cl g T' (arrI d' n)) h') (hk : k < n) (hd' : ∀ q, q < n → d' q = if q = k then v else d q) (hmd : md g)
    (hK : K s h') : AOp P N o md s h K := aop_store T ho hx hy ht rfl rfl rfl hd hp (by rw [arrI_len]; omega) (arrI_set hk hd') hmd hK
end
end Go.Tl
end
section
namespace Go.Tl
open Go Go.RowKit
open Go.Proofs.Ytlpknbneilgjkaa
set_option linter.unusedVariables false
set_option linter.unusedSimpArgs false
/-- some of the slots -/
def sel (acc : Slots) : List Nat → Slots
  | [] => []
  | d :: ds => match look acc d with
    | some x => (d, x) :: sel acc ds
    | none => sel acc ds
theorem sel_look {acc : Slots} {e : Nat} {x : AV} : ∀ {ds : List Nat}, look (sel acc ds) e = some x → look acc e = some x ∧ e ∈ ds
  | [], h => by cases h
  | d :: ds, h => by
    simp only [sel] at h
    cases hl : look acc d with
    | none =>
      rw [hl] at h
      obtain ⟨h1, h2⟩ := sel_look h
      exact ⟨h1, List.mem_cons_of_mem _ h2⟩
    | some u =>
      rw [hl] at h
      simp only [look] at h
      by_cases c : d = e
      · subst c
        rw [Nat.beq_refl] at h
        exact ⟨by rw [hl]; exact h, List.mem_cons_self⟩
      · have hb : Nat.beq d e = false := by
          cases hb : Nat.beq d e
          · rfl
          · exact absurd (Nat.eq_of_beq_eq_true hb) c
        rw [hb] at h
        obtain ⟨h1, h2⟩ := sel_look h
        exact ⟨h1, List.mem_cons_of_mem _ h2⟩
theorem look_cons {acc : Slots} {d e : Nat} {x : AV} : look ((d, x) :: acc) e = if d = e then some x else look acc e := by
  simp only [look]
  by_cases c : d = e
  · subst c; rw [Nat.beq_refl, if_pos rfl]; rfl
  · have hb : Nat.beq d e = false := by
      cases hb : Nat.beq d e
      · rfl
      · exact absurd (Nat.eq_of_beq_eq_true hb) c
    rw [hb, if_neg c]; rfl
/-- what an operation waits for directly, or what was there -/
def directB (ops : Array Oper) (o : Oper) (d : Nat) : Bool := (ops.toList.all fun o' => o'.dst != some d) || o.after.any fun e => Region.binds .any e && (match ops[e.on]? with | some oj => oj.dst == some d | none => false)
/-- each operation waits for earlier ones alone -/
def earlyB (ops : Array Oper) : Bool := (List.range ops.size).all fun i => match ops[i]? with | some o => o.after.all fun e => Nat.blt e.on i | none => true
variable {P : Program} {N : Nat} {ops : Array Oper} {h : List Ent} {Q : Exit → Slots → List Ent → Prop}
def StepQ (P : Program) (N : Nat) (o : Oper) (si : Slots) (h : List Ent) (d : Nat) (y : AV) : Prop := AOp P N o (fun _ => False) si h (fun s2 h2 => ∃ s3, Ghost s2 h2 s3 h ∧ look s3 d = some y)
theorem stepQ_pv {o : Oper} {si : Slots} {d : Nat} {y : AV} (H : PV P o si y) (hd : o.dst = some d) (hN : Nat.blt d N = true) : StepQ P N o si h d y := aop_pv H hd (blt_lt hN) ⟨_, Ghost.refl, by rw [look_cons, if_pos rfl]⟩
theorem stepQ_lv {o : Oper} {si : Slots} {d : Nat} {y : AV} {e : Option Ent} (H : LV P o si h e y) (hd : o.dst = some d) (hN : Nat.blt d N = true) : StepQ P N o si h d y := aop_lv H hd (blt_lt hN) ⟨_, Ghost.refl, by rw [look_cons, if_pos rfl]⟩
theorem stepQ_g {o : Oper} {si : Slots} {d : Nat} {y : AV} {K : Slots → List Ent → Prop} (H : AOp P N o (fun _ => False) si h K) (hK : ∀ s2 h2, K s2 h2 → ∃ s3, Ghost s2 h2 s3 h ∧ look s3 d = some y) : StepQ P N o si h d y := fun B w S a hs Kr Qr hk =>
  H B w S a hs Kr Qr fun v w' S' s' h' k hs' hu => hk v w' S' s' h' (hK _ _ k) hs' hu
def StepW (P : Program) (N : Nat) (ops : Array Oper) (o : Oper) (si : Slots) (h : List Ent) (d : Nat) (y : AV) : Prop := (Wt ops o si ∧ StepQ P N o si h d y) ∨ (Wf ops o si ∧ y = .v undef)
/-- the walk in the text's order -/
def ParW (P : Program) (N : Nat) (ops : Array Oper) (h : List Ent) (Q : Exit → Slots → List Ent → Prop) : List Nat → Slots → Prop
  | [], acc => Q .normal acc h
  | i :: r, acc => ∃ (o : Oper) (d : Nat) (y : AV) (ds : List Nat), ops[i]? = some o ∧ o.dst = some d ∧ Nat.blt d N = true ∧ look acc d = none ∧ ds.all (directB ops o) = true ∧ StepW P N ops o (sel acc ds) h d y ∧ ParW P N ops h Q r ((d, y) :: acc)
structure StepAt (P : Program) (N : Nat) (ops : Array Oper) (h : List Ent) (acc : Slots) (i : Nat) (o : Oper) (d : Nat) (y : AV) (si : Slots) : Prop where
  op : ops[i]? = some o
  dst : o.dst = some d
  lt : d < N
  val : look acc d = some y
  need : ∀ e x, look si e = some x → look acc e = some x ∧ directB ops o e = true
  step : StepW P N ops o si h d y
theorem par_ex : ∀ (l : List Nat) (acc : Slots), ParW P N ops h Q l acc → ∃ accF, Q .normal accF h ∧ (∀ e x, look acc e = some x → look accF e = some x) ∧
    (∀ e x, look accF e = some x → look acc e = some x ∨ ∃ i ∈ l, ∃ o, ops[i]? = some o ∧ o.dst = some e) ∧ (∀ i ∈ l, ∃ o d y si, StepAt P N ops h accF i o d y si ∧ look acc d = none) ∧
    l.Pairwise (fun i j => ∀ oi oj d, ops[i]? = some oi → ops[j]? = some oj → oi.dst = some d → oj.dst ≠ some d)
  | [], acc, H => ⟨acc, H, fun _ _ h => h, fun _ _ h => .inl h, fun _ h => (by cases h), .nil⟩
  | i :: r, acc, H => by
    obtain ⟨o, d, y, ds, h1, h2, h3, h4, h5, h6, h7⟩ := H
    obtain ⟨accF, k1, k2, k3, k4, k5⟩ := par_ex r _ h7
    have old : ∀ e x, look acc e = some x → look ((d, y) :: acc) e = some x := fun e x hx => by
      rw [look_cons, if_neg (fun c => by subst c; rw [h4] at hx; cases hx)]; exact hx
    refine ⟨accF, k1, fun e x hx => k2 e x (old e x hx), fun e x hx => ?_, fun j hj => ?_, ?_⟩
    · rcases k3 e x hx with h | ⟨j, hj, oj, e1, e2⟩
      · rw [look_cons] at h
        by_cases c : d = e
        · subst c; exact .inr ⟨i, List.mem_cons_self, o, h1, h2⟩
        · rw [if_neg c] at h; exact .inl h
      · exact .inr ⟨j, List.mem_cons_of_mem _ hj, oj, e1, e2⟩
    · rcases List.mem_cons.1 hj with rfl | hj
      · refine ⟨o, d, y, sel acc ds, ⟨h1, h2, blt_lt h3, k2 d y (by rw [look_cons, if_pos rfl]), fun e x hx => ?_, h6⟩, h4⟩
        obtain ⟨a1, a2⟩ := sel_look hx
        exact ⟨k2 e x (old e x a1), List.all_eq_true.1 h5 e a2⟩
      · obtain ⟨oj, dj, yj, sj, a1, a2⟩ := k4 j hj
        refine ⟨oj, dj, yj, sj, a1, ?_⟩
        rw [look_cons] at a2
        by_cases c : d = dj
        · rw [if_pos c] at a2; cases a2
        · rw [if_neg c] at a2; exact a2
    · refine List.pairwise_cons.2 ⟨fun j hj oi oj e e1 e2 e3 e4 => ?_, k5⟩
      obtain ⟨oj', dj, yj, sj, a1, a2⟩ := k4 j hj
      obtain rfl : oj' = oj := Option.some.inj (a1.op.symm.trans e2)
      obtain rfl : oi = o := Option.some.inj (e1.symm.trans h1)
      obtain rfl : d = e := Option.some.inj (h2.symm.trans e3)
      obtain rfl : dj = d := Option.some.inj (a1.dst.symm.trans e4)
      rw [look_cons, if_pos rfl] at a2
      cases a2
/-- what has been made, or was there -/
def Avail (ops : Array Oper) (listed : Array Bool) (e : Nat) : Prop := ∀ (i : Nat) o, ops[i]? = some o → o.dst = some e → listed.getD i false = true
theorem sim_facts {B : Base} {w : World} {S : Nat → Prop} {s s' : Slots} {h : List Ent} {a : Act} (hs : Sim B N w S s h a) (hf : SRel w S s' a.tmps) : Sim B N w S s' h a := ⟨hs.ext, hs.defs, hs.size, hf, hs.lt, hs.heap, hs.live, hs.off⟩
theorem par_run {accF : Slots} (hQ : Q .normal accF h) (hst : ∀ i, i < ops.size → ∃ o d y si, StepAt P N ops h accF i o d y si) (huniq : ∀ (i j : Nat) (oi oj : Oper) (d : Nat), ops[i]? = some oi → ops[j]? = some oj → oi.dst = some d → oj.dst = some d → i = j) (hearly : earlyB ops = true) {B : Base} :
    ∀ (fuel : Nat) (listed : Array Bool) (w : World) (S : Nat → Prop) (s' : Slots) (a : Act), listed.size = ops.size → listed.toList.count false = fuel → Sim B N w S s' h a → (∀ e x, look accF e = some x → Avail ops listed e → look s' e = some x) →
      wpAX P .any ops (postR B N Q) (fun _ => True) (fun _ => false) fuel listed a w := by
  have fin : ∀ (listed : Array Bool) (w : World) (S : Nat → Prop) (s' : Slots) (a : Act), listed.size = ops.size → Sim B N w S s' h a → (∀ e x, look accF e = some x → Avail ops listed e → look s' e = some x) → Region.ready .any ops listed = [] → postR B N Q .normal a w := fun listed w S s' a hsz hs hf hr => by
    have hall : ∀ n j, j < n → j < ops.size → listed.getD j false = true := fun n => by
      induction n with
      | zero => intro j hj; exact absurd hj (Nat.not_lt_zero _)
      | succ n ih =>
        intro j hj hjs
        by_cases c : j < n
        · exact ih j c hjs
        obtain rfl : j = n := by omega
        cases hl : listed.getD j false
        · exfalso
          have hlt : j < listed.size := by omega
          have ho : ops[j]? = some ops[j] := Array.getElem?_eq_getElem hjs
          have : j ∈ Region.ready .any ops listed := mem_ready.2 ⟨by simpa [hlt] using hl, ops[j], ho, fun e he hb => by
            have h1 := List.all_eq_true.1 hearly j (List.mem_range.2 hjs)
            rw [ho] at h1
            have h2 := Array.all_eq_true'.1 h1 e he
            have h3 : e.on < j := blt_lt h2
            exact ih e.on h3 (by omega)⟩
          rw [hr] at this
          cases this
        · rfl
    refine ⟨rfl, S, accF, h, hQ, sim_facts hs fun e x hx => hs.slots e x (hf e x hx fun i o ho hd => hall ops.size i ?_ ?_)⟩
    · exact (Array.getElem?_eq_some_iff.1 ho).1
    · exact (Array.getElem?_eq_some_iff.1 ho).1
  intro fuel
  induction fuel with
  | zero =>
    intro listed w S s' a hsz hc hs hf
    have hr : Region.ready .any ops listed = [] := by
      refine List.eq_nil_iff_forall_not_mem.2 fun i hi => ?_
      obtain ⟨h1, o, ho, _⟩ := mem_ready.1 hi
      have hlt : i < listed.size := by rw [hsz]; exact (Array.getElem?_eq_some_iff.1 ho).1
      have h2 : listed[i] = false := by simpa [hlt] using h1
      have : false ∈ listed.toList := by rw [← h2]; simp
      exact absurd (List.count_pos_iff.2 this) (by omega)
    exact ⟨hr, fin listed w S s' a hsz hs hf hr⟩
  | succ fuel ih =>
    intro listed w S s' a hsz hc hs hf
    refine ⟨fun hr => fin listed w S s' a hsz hs hf hr, fun i hi => ?_⟩
    obtain ⟨h1, o', ho', hafter⟩ := mem_ready.1 hi
    have his : i < ops.size := (Array.getElem?_eq_some_iff.1 ho').1
    have hlt : i < listed.size := by omega
    have h2 : listed[i] = false := by simpa [hlt] using h1
    obtain ⟨o, d, y, si, hA⟩ := hst i his
    obtain rfl : o' = o := Option.some.inj (ho'.symm.trans hA.op)
    -- what it needs is there
    have hneed : ∀ e x, look si e = some x → look s' e = some x := fun e x hx => by
      obtain ⟨a1, a2⟩ := hA.need e x hx
      refine hf e x a1 fun j oj hj hd => ?_
      unfold directB at a2
      rw [Bool.or_eq_true] at a2
      rcases a2 with a2 | a2
      · have hm : oj ∈ ops.toList := by simpa using Array.mem_of_getElem? hj
        have := List.all_eq_true.1 a2 oj hm
        rw [hd] at this
        simp at this
      · obtain ⟨z, hz, hb⟩ := Array.any_eq_true'.1 a2
        rw [Bool.and_eq_true] at hb
        cases hk : ops[z.on]? with
        | none => rw [hk] at hb; cases hb.2
        | some ok =>
          rw [hk] at hb
          have hd2 : ok.dst = some e := by simpa using hb.2
          have e1 := huniq j z.on oj ok e hj hk hd hd2
          rw [e1]
          exact hafter z hz hb.1
    have hsi : Sim B N w S si h a := sim_facts hs fun e x hx => hs.slots e x (hneed e x hx)
    have hsz' : (listed.setIfInBounds i true).size = ops.size := by simp [hsz]
    have hc' : (listed.setIfInBounds i true).toList.count false = fuel := by
      rw [Array.toList_setIfInBounds, List.count_set (by simpa using hlt)]
      have h3 : listed.toList[i]'(by simpa using hlt) = false := by simpa using h2
      have h4 : (false == false) = true := rfl
      have h5 : (true == false) = false := rfl
      rw [h3, h4, h5, if_pos rfl, if_neg Bool.false_ne_true]
      omega
    have next : ∀ (w' : World) (S' : Nat → Prop) (s2 : Slots) (v : Value), Sim B N w' S' s2 h (a.put (some d) v) → look s2 d = some y → (∀ b, S b → S' b) → (∀ b, S b → w'.heap[b]? = w.heap[b]?) →
        wpAX P .any ops (postR B N Q) (fun _ => True) (fun _ => false) fuel (listed.setIfInBounds i true) (a.put (some d) v) w' := fun w' S' s2 v hs2 hy hS hw => by
      refine ih _ w' S' ((d, y) :: s') _ hsz' hc' (sim_facts hs2 fun e x hx => ?_) fun e x hx hav => ?_
      · rw [look_cons] at hx
        by_cases c : d = e
        · subst c
          rw [if_pos rfl] at hx
          cases hx
          exact hs2.slots d y hy
        · rw [if_neg c] at hx
          obtain ⟨u, hu, hv⟩ := hs.slots e x hx
          refine ⟨u, ?_, hv.mono hS hw⟩
          simp only [Act.put]
          rw [Array.getElem?_setIfInBounds_ne c]
          exact hu
      · rw [look_cons]
        by_cases c : d = e
        · subst c
          rw [if_pos rfl, ← hx, hA.val]
        · rw [if_neg c]
          refine hf e x hx fun j oj hj hd => ?_
          have := hav j oj hj hd
          rwa [getD_set_ne false (fun e1 => by
            subst e1
            have : oj = o' := Option.some.inj (hj.symm.trans hA.op)
            subst this
            exact c (Option.some.inj (hA.dst.symm.trans hd)))] at this
    refine wpOX_of_if hA.op ?_
    rcases hA.step with ⟨hw, hq⟩ | ⟨hw, rfl⟩
    · rw [if_pos (hw.wanted hsi.slots)]
      refine hq B w S a hsi _ _ fun v w' S' s2 h2 hk hs2 hu => ⟨fun _ _ => trivial, ?_⟩
      obtain ⟨s3, hG, hy⟩ := hk
      obtain ⟨S3, hs3, hS3⟩ := hG B N w' S' _ hs2
      rw [hA.dst] at hs3 ⊢
      exact next w' S3 s3 v hs3 hy (fun b hb => hS3 b (hu.stab b hb)) fun b hb => hu.keep b (hs.lt b hb) (fun h => h)
    · rw [if_neg (by rw [hw.unwanted hsi.slots]; simp), hA.dst]
      exact ⟨fun _ _ => trivial, next w S ((d, .v undef) :: s') undef (hs.put (.v _) hA.lt) (by rw [look_cons, if_pos rfl]) (fun _ h => h) fun _ _ => rfl⟩
theorem parW_op {i d : Nat} {r : List Nat} {acc : Slots} {o : Oper} {y : AV} {ds : List Nat} (ho : ops[i]? = some o) (hd : o.dst = some d) (hN : Nat.blt d N = true) (hl : look acc d = none) (hds : ds.all (directB ops o) = true) (hs : StepW P N ops o (sel acc ds) h d y) (K : ParW P N ops h Q r ((d, y) :: acc)) : ParW P N ops h Q (i :: r) acc := ⟨o, d, y, ds, ho, hd, hN, hl, hds, hs, K⟩
theorem parW_nil {acc : Slots} (H : Q .normal acc h) : ParW P N ops h Q [] acc := H
theorem awp_par (T : TT P) {ro : Option Nat} {id : Nat} {s : Slots} {l : List Nat} (hl : List.range ops.size = l) (hn : ops.toList.all ndO = true) (hearly : earlyB ops = true) (H : ParW P N ops h Q l s) : AWP P N ro (.region id ops true) Q s h := fun B w S a hs => by
  subst hl
  obtain ⟨accF, k1, k2, k3, k4, k5⟩ := par_ex _ _ H
  have hst : ∀ i, i < ops.size → ∃ o d y si, StepAt P N ops h accF i o d y si := fun i hi => by
    obtain ⟨o, d, y, si, a1, _⟩ := k4 i (List.mem_range.2 hi)
    exact ⟨o, d, y, si, a1⟩
  have huniq : ∀ (i j : Nat) (oi oj : Oper) (d : Nat), ops[i]? = some oi → ops[j]? = some oj → oi.dst = some d → oj.dst = some d → i = j := fun i j oi oj d h1 h2 h3 h4 => by
    have hi : i < ops.size := (Array.getElem?_eq_some_iff.1 h1).1
    have hj : j < ops.size := (Array.getElem?_eq_some_iff.1 h2).1
    rw [List.pairwise_iff_getElem] at k5
    rcases Nat.lt_trichotomy i j with c | c | c
    · have := k5 i j (by simpa using hi) (by simpa using hj) c
      simp only [List.getElem_range] at this
      exact absurd h4 (this oi oj d h1 h2 h3)
    · exact c
    · have := k5 j i (by simpa using hj) (by simpa using hi) c
      simp only [List.getElem_range] at this
      exact absurd h3 (this oj oi d h2 h1 h4)
  refine Code.wpIn_mono postR_post (wpIn_region_any T.mixed ?_)
  have hd := hs.drew
  refine wpAX.anyIn (S := fun _ => True) (ks := fun _ => false) hn _ _ _ _ (par_run k1 hst huniq hearly ops.size (Array.replicate ops.size false) w.drew S s a (by simp) (by simp) hd fun e x hx hav => ?_)
  rcases k3 e x hx with h1 | ⟨i, hi, o, h1, h2⟩
  · exact h1
  · have := hav i o h1 h2
    have hi' : i < ops.size := (Array.getElem?_eq_some_iff.1 h1).1
    simp [hi'] at this
end Go.Tl
end
section
namespace Go.Tl
open Go Go.RowKit
set_option linter.unusedVariables false
set_option linter.unusedSimpArgs false
section
variable {P : Program} {N : Nat} {s : Slots} {h : List Ent}
theorem awp_cutX {ro : Option Nat} {id : Nat} {x y : Code} {Q Q' : Exit → Slots → List Ent → Prop} (M : Slots → List Ent → Prop) (H1 : AWP P N ro x (blockQ id (cutQ M)) s h) (H2 : ∀ s' h', M s' h' → AWP P N ro y Q s' h') :
    AWP P N ro x (blockQ id (thenQ (AWP P N ro y Q) Q')) s h := by
  have key : ∀ s1 h1, cutQ M .normal s1 h1 → AWP P N ro y Q s1 h1 := fun s1 h1 ⟨_, s', h', hs, hh, hM⟩ => awp_weak hs hh (H2 s' h' hM)
  refine awp_mono H1 fun e s1 h1 hb => ?_
  cases e with
  | normal => exact key _ _ hb
  | exit i =>
    show cond (Nat.beq i id) (AWP P N ro y Q s1 h1) (Q' (.exit i) s1 h1)
    have hb' : cond (Nat.beq i id) (cutQ M .normal s1 h1) (cutQ M (.exit i) s1 h1) := hb
    cases hc : Nat.beq i id
    · rw [hc] at hb'; exact absurd hb'.1 (by simp)
    · rw [hc] at hb'; exact key _ _ hb'
  | _ => exact absurd hb.1 (by simp)
theorem awp_cutX2 {P : Program} {N : Nat} {ro : Option Nat} {id id2 : Nat} {x y : Code} {Q Q' : Exit → Slots → List Ent → Prop} {s : Slots} {h : List Ent} (M : Slots → List Ent → Prop) (H1 : AWP P N ro x (blockQ id (cutQ M)) s h) (H2 : ∀ s' h', M s' h' → AWP P N ro y Q s' h') :
    AWP P N ro x (blockQ id (blockQ id2 (thenQ (AWP P N ro y Q) Q'))) s h := by
  have key : ∀ s1 h1, cutQ M .normal s1 h1 → AWP P N ro y Q s1 h1 := fun s1 h1 ⟨_, s', h', hs, hh, hM⟩ => awp_weak hs hh (H2 s' h' hM)
  refine awp_mono H1 fun e s1 h1 hb => ?_
  cases e with
  | normal => exact key _ _ hb
  | exit i =>
    have hb' : cond (Nat.beq i id) (cutQ M .normal s1 h1) (cutQ M (.exit i) s1 h1) := hb
    cases hc : Nat.beq i id
    · rw [hc] at hb'; exact absurd hb'.1 (by simp)
    · rw [hc] at hb'
      show cond (Nat.beq i id) (AWP P N ro y Q s1 h1) _
      rw [hc]
      exact key _ _ hb'
  | _ => exact absurd hb.1 (by simp)
end
end Go.Tl
end
