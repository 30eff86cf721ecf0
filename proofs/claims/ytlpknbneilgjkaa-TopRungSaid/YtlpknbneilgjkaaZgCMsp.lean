/- Joined texts: GPa, CCb, CCd, CGLe, CMsp. -/
import Derived.Test.YtlpknbneilgjkaaZgGTy
import Derived.Test.YtlpknbneilgjkaaZgCCa
import Derived.Test.YtlpknbneilgjkaaTL
section
section
namespace Go.Proofs.Ytlpknbneilgjkaa
open Go Go.RowKit Go.Tl
set_option linter.unusedVariables false
set_option linter.unusedSimpArgs false
def arrI (d : Nat → Int) (n : Nat) : List AV := (List.range n).map fun i => intA (d i)
theorem arrI_len (d : Nat → Int) (n : Nat) : (arrI d n).length = n := by simp [arrI]
theorem arrI_at {d : Nat → Int} {n k : Nat} (h : k < n) : (arrI d n)[k]? = some (intA (d k)) := by simp [arrI, h]
theorem arrI_set {d d' : Nat → Int} {n k : Nat} {v : Int} (h : k < n) (hd : ∀ q, q < n → d' q = if q = k then v else d q) : spA (arrI d n) k [intA v] = arrI d' n := by
  have e : spA (arrI d n) k [intA v] = (arrI d n).set k (intA v) := by
    unfold spA
    rw [List.set_eq_take_append_cons_drop, if_pos (by rw [arrI_len]; exact h)]
    simp
  rw [e]
  refine List.ext_getElem? fun j => ?_
  rw [List.getElem?_set]
  by_cases hj : j < n
  · rw [arrI_at (d := d') hj, hd j hj]
    by_cases c : k = j
    · subst c; rw [if_pos rfl, if_pos (by rw [arrI_len]; exact h), if_pos rfl]
    · rw [if_neg c, if_neg (fun h => c h.symm), arrI_at hj]
  · rw [List.getElem?_eq_none (l := arrI d' n) (by rw [arrI_len]; omega), List.getElem?_eq_none (l := arrI d n) (by rw [arrI_len]; omega)]
    rw [if_neg (by omega)]
end Go.Proofs.Ytlpknbneilgjkaa
namespace Go.Tl
open Go Go.RowKit Go.Proofs.Ytlpknbneilgjkaa
section
variable {P : Program} {N : Nat} {o : Oper} {md : Nat → Prop} {s : Slots} {h : List Ent} {K : Slots → List Ent → Prop}
theorem st_arrI (T : TT P) {t g k n : Nat} {x y : Operand} {v : Int} {T' : TypeId} {d d' : Nat → Int} {h' : List Ent} (ho : o.op = .store t x y) (hx : evA s x = some (.v (.pointer (some ⟨g, k, none⟩)))) (hy : evA s y = some (intA v))
    (ht : f2 T.siz t = some (1, false)) (hd : o.dst = none) (hp : Repl h (.cl g T' (arrI d n)) (.cl g T' (arrI d' n)) h') (hk : k < n) (hd' : ∀ q, q < n → d' q = if q = k then v else d q) (hmd : md g)
    (hK : K s h') : AOp P N o md s h K := aop_store T ho hx hy ht rfl rfl rfl hd hp (by rw [arrI_len]; omega) (arrI_set hk hd') hmd hK
end
end Go.Tl
end
section
namespace Go.Tl
open Go Go.RowKit
open Go.Proofs.Ytlpknbneilgjkaa
set_option linter.unusedVariables false
set_option linter.unusedSimpArgs false
/-- some of the slots -/
def sel (acc : Slots) : List Nat → Slots
  | [] => []
  | d :: ds => match look acc d with
    | some x => (d, x) :: sel acc ds
    | none => sel acc ds
theorem sel_look {acc : Slots} {e : Nat} {x : AV} : ∀ {ds : List Nat}, look (sel acc ds) e = some x → look acc e = some x ∧ e ∈ ds
  | [], h => by cases h
  | d :: ds, h => by
    simp only [sel] at h
    cases hl : look acc d with
    | none =>
      rw [hl] at h
      obtain ⟨h1, h2⟩ := sel_look h
      exact ⟨h1, List.mem_cons_of_mem _ h2⟩
    | some u =>
      rw [hl] at h
      simp only [look] at h
      by_cases c : d = e
      · subst c
        rw [Nat.beq_refl] at h
        exact ⟨by rw [hl]; exact h, List.mem_cons_self⟩
      · have hb : Nat.beq d e = false := by
          cases hb : Nat.beq d e
          · rfl
          · exact absurd (Nat.eq_of_beq_eq_true hb) c
        rw [hb] at h
        obtain ⟨h1, h2⟩ := sel_look h
        exact ⟨h1, List.mem_cons_of_mem _ h2⟩
theorem look_cons {acc : Slots} {d e : Nat} {x : AV} : look ((d, x) :: acc) e = if d = e then some x else look acc e := by
  simp only [look]
  by_cases c : d = e
  · subst c; rw [Nat.beq_refl, if_pos rfl]; rfl
  · have hb : Nat.beq d e = false := by
      cases hb : Nat.beq d e
      · rfl
      · exact absurd (Nat.eq_of_beq_eq_true hb) c
    rw [hb, if_neg c]; rfl
/-- what an operation waits for directly, or what was there -/
def directB (ops : Array Oper) (o : Oper) (d : Nat) : Bool := (ops.toList.all fun o' => o'.dst != some d) || o.after.any fun e => Region.binds .any e && (match ops[e.on]? with | some oj => oj.dst == some d | none => false)
/-- each operation waits for earlier ones alone -/
def earlyB (ops : Array Oper) : Bool := (List.range ops.size).all fun i => match ops[i]? with | some o => o.after.all fun e => Nat.blt e.on i | none => true
variable {P : Program} {N : Nat} {ops : Array Oper} {h : List Ent} {Q : Exit → Slots → List Ent → Prop}
def StepQ (P : Program) (N : Nat) (o : Oper) (si : Slots) (h : List Ent) (d : Nat) (y : AV) : Prop := AOp P N o (fun _ => False) si h (fun s2 h2 => ∃ s3, Ghost s2 h2 s3 h ∧ look s3 d = some y)
theorem stepQ_pv {o : Oper} {si : Slots} {d : Nat} {y : AV} (H : PV P o si y) (hd : o.dst = some d) (hN : Nat.blt d N = true) : StepQ P N o si h d y := aop_pv H hd (blt_lt hN) ⟨_, Ghost.refl, by rw [look_cons, if_pos rfl]⟩
theorem stepQ_lv {o : Oper} {si : Slots} {d : Nat} {y : AV} {e : Option Ent} (H : LV P o si h e y) (hd : o.dst = some d) (hN : Nat.blt d N = true) : StepQ P N o si h d y := aop_lv H hd (blt_lt hN) ⟨_, Ghost.refl, by rw [look_cons, if_pos rfl]⟩
def StepW (P : Program) (N : Nat) (ops : Array Oper) (o : Oper) (si : Slots) (h : List Ent) (d : Nat) (y : AV) : Prop := (Wt ops o si ∧ StepQ P N o si h d y) ∨ (Wf ops o si ∧ y = .v undef)
/-- the walk in the text's order -/
def ParW (P : Program) (N : Nat) (ops : Array Oper) (h : List Ent) (Q : Exit → Slots → List Ent → Prop) : List Nat → Slots → Prop
  | [], acc => Q .normal acc h
  | i :: r, acc => ∃ (o : Oper) (d : Nat) (y : AV) (ds : List Nat), ops[i]? = some o ∧ o.dst = some d ∧ Nat.blt d N = true ∧ look acc d = none ∧ ds.all (directB ops o) = true ∧ StepW P N ops o (sel acc ds) h d y ∧ ParW P N ops h Q r ((d, y) :: acc)
structure StepAt (P : Program) (N : Nat) (ops : Array Oper) (h : List Ent) (acc : Slots) (i : Nat) (o : Oper) (d : Nat) (y : AV) (si : Slots) : Prop where
  op : ops[i]? = some o
  dst : o.dst = some d
  lt : d < N
  val : look acc d = some y
  need : ∀ e x, look si e = some x → look acc e = some x ∧ directB ops o e = true
  step : StepW P N ops o si h d y
theorem par_ex : ∀ (l : List Nat) (acc : Slots), ParW P N ops h Q l acc → ∃ accF, Q .normal accF h ∧ (∀ e x, look acc e = some x → look accF e = some x) ∧
    (∀ e x, look accF e = some x → look acc e = some x ∨ ∃ i ∈ l, ∃ o, ops[i]? = some o ∧ o.dst = some e) ∧ (∀ i ∈ l, ∃ o d y si, StepAt P N ops h accF i o d y si ∧ look acc d = none) ∧
    l.Pairwise (fun i j => ∀ oi oj d, ops[i]? = some oi → ops[j]? = some oj → oi.dst = some d → oj.dst ≠ some d)
  | [], acc, H => ⟨acc, H, fun _ _ h => h, fun _ _ h => .inl h, fun _ h => (by cases h), .nil⟩
  | i :: r, acc, H => by
    obtain ⟨o, d, y, ds, h1, h2, h3, h4, h5, h6, h7⟩ := H
    obtain ⟨accF, k1, k2, k3, k4, k5⟩ := par_ex r _ h7
    have old : ∀ e x, look acc e = some x → look ((d, y) :: acc) e = some x := fun e x hx => by
      rw [look_cons, if_neg (fun c => by subst c; rw [h4] at hx; cases hx)]; exact hx
    refine ⟨accF, k1, fun e x hx => k2 e x (old e x hx), fun e x hx => ?_, fun j hj => ?_, ?_⟩
    · rcases k3 e x hx with h | ⟨j, hj, oj, e1, e2⟩
      · rw [look_cons] at h
        by_cases c : d = e
        · subst c; exact .inr ⟨i, List.mem_cons_self, o, h1, h2⟩
        · rw [if_neg c] at h; exact .inl h
      · exact .inr ⟨j, List.mem_cons_of_mem _ hj, oj, e1, e2⟩
    · rcases List.mem_cons.1 hj with rfl | hj
      · refine ⟨o, d, y, sel acc ds, ⟨h1, h2, blt_lt h3, k2 d y (by rw [look_cons, if_pos rfl]), fun e x hx => ?_, h6⟩, h4⟩
        obtain ⟨a1, a2⟩ := sel_look hx
        exact ⟨k2 e x (old e x a1), List.all_eq_true.1 h5 e a2⟩
      · obtain ⟨oj, dj, yj, sj, a1, a2⟩ := k4 j hj
        refine ⟨oj, dj, yj, sj, a1, ?_⟩
        rw [look_cons] at a2
        by_cases c : d = dj
        · rw [if_pos c] at a2; cases a2
        · rw [if_neg c] at a2; exact a2
    · refine List.pairwise_cons.2 ⟨fun j hj oi oj e e1 e2 e3 e4 => ?_, k5⟩
      obtain ⟨oj', dj, yj, sj, a1, a2⟩ := k4 j hj
      obtain rfl : oj' = oj := Option.some.inj (a1.op.symm.trans e2)
      obtain rfl : oi = o := Option.some.inj (e1.symm.trans h1)
      obtain rfl : d = e := Option.some.inj (h2.symm.trans e3)
      obtain rfl : dj = d := Option.some.inj (a1.dst.symm.trans e4)
      rw [look_cons, if_pos rfl] at a2
      cases a2
/-- what has been made, or was there -/
def Avail (ops : Array Oper) (listed : Array Bool) (e : Nat) : Prop := ∀ (i : Nat) o, ops[i]? = some o → o.dst = some e → listed.getD i false = true
theorem sim_facts {B : Base} {w : World} {S : Nat → Prop} {s s' : Slots} {h : List Ent} {a : Act} (hs : Sim B N w S s h a) (hf : SRel w S s' a.tmps) : Sim B N w S s' h a := ⟨hs.ext, hs.defs, hs.size, hf, hs.lt, hs.heap, hs.live, hs.off⟩
theorem par_run {accF : Slots} (hQ : Q .normal accF h) (hst : ∀ i, i < ops.size → ∃ o d y si, StepAt P N ops h accF i o d y si) (huniq : ∀ (i j : Nat) (oi oj : Oper) (d : Nat), ops[i]? = some oi → ops[j]? = some oj → oi.dst = some d → oj.dst = some d → i = j) (hearly : earlyB ops = true) {B : Base} :
    ∀ (fuel : Nat) (listed : Array Bool) (w : World) (S : Nat → Prop) (s' : Slots) (a : Act), listed.size = ops.size → listed.toList.count false = fuel → Sim B N w S s' h a → (∀ e x, look accF e = some x → Avail ops listed e → look s' e = some x) →
      wpAX P .any ops (postR B N Q) (fun _ => True) (fun _ => false) fuel listed a w := by
  have fin : ∀ (listed : Array Bool) (w : World) (S : Nat → Prop) (s' : Slots) (a : Act), listed.size = ops.size → Sim B N w S s' h a → (∀ e x, look accF e = some x → Avail ops listed e → look s' e = some x) → Region.ready .any ops listed = [] → postR B N Q .normal a w := fun listed w S s' a hsz hs hf hr => by
    have hall : ∀ n j, j < n → j < ops.size → listed.getD j false = true := fun n => by
      induction n with
      | zero => intro j hj; exact absurd hj (Nat.not_lt_zero _)
      | succ n ih =>
        intro j hj hjs
        by_cases c : j < n
        · exact ih j c hjs
        obtain rfl : j = n := by omega
        cases hl : listed.getD j false
        · exfalso
          have hlt : j < listed.size := by omega
          have ho : ops[j]? = some ops[j] := Array.getElem?_eq_getElem hjs
          have : j ∈ Region.ready .any ops listed := mem_ready.2 ⟨by simpa [hlt] using hl, ops[j], ho, fun e he hb => by
            have h1 := List.all_eq_true.1 hearly j (List.mem_range.2 hjs)
            rw [ho] at h1
            have h2 := Array.all_eq_true'.1 h1 e he
            have h3 : e.on < j := blt_lt h2
            exact ih e.on h3 (by omega)⟩
          rw [hr] at this
          cases this
        · rfl
    refine ⟨rfl, S, accF, h, hQ, sim_facts hs fun e x hx => hs.slots e x (hf e x hx fun i o ho hd => hall ops.size i ?_ ?_)⟩
    · exact (Array.getElem?_eq_some_iff.1 ho).1
    · exact (Array.getElem?_eq_some_iff.1 ho).1
  intro fuel
  induction fuel with
  | zero =>
    intro listed w S s' a hsz hc hs hf
    have hr : Region.ready .any ops listed = [] := by
      refine List.eq_nil_iff_forall_not_mem.2 fun i hi => ?_
      obtain ⟨h1, o, ho, _⟩ := mem_ready.1 hi
      have hlt : i < listed.size := by rw [hsz]; exact (Array.getElem?_eq_some_iff.1 ho).1
      have h2 : listed[i] = false := by simpa [hlt] using h1
      have : false ∈ listed.toList := by rw [← h2]; simp
      exact absurd (List.count_pos_iff.2 this) (by omega)
    exact ⟨hr, fin listed w S s' a hsz hs hf hr⟩
  | succ fuel ih =>
    intro listed w S s' a hsz hc hs hf
    refine ⟨fun hr => fin listed w S s' a hsz hs hf hr, fun i hi => ?_⟩
    obtain ⟨h1, o', ho', hafter⟩ := mem_ready.1 hi
    have his : i < ops.size := (Array.getElem?_eq_some_iff.1 ho').1
    have hlt : i < listed.size := by omega
    have h2 : listed[i] = false := by simpa [hlt] using h1
    obtain ⟨o, d, y, si, hA⟩ := hst i his
    obtain rfl : o' = o := Option.some.inj (ho'.symm.trans hA.op)
    -- what it needs is there
    have hneed : ∀ e x, look si e = some x → look s' e = some x := fun e x hx => by
      obtain ⟨a1, a2⟩ := hA.need e x hx
      refine hf e x a1 fun j oj hj hd => ?_
      unfold directB at a2
      rw [Bool.or_eq_true] at a2
      rcases a2 with a2 | a2
      · have hm : oj ∈ ops.toList := by simpa using Array.mem_of_getElem? hj
        have := List.all_eq_true.1 a2 oj hm
        rw [hd] at this
        simp at this
      · obtain ⟨z, hz, hb⟩ := Array.any_eq_true'.1 a2
        rw [Bool.and_eq_true] at hb
        cases hk : ops[z.on]? with
        | none => rw [hk] at hb; cases hb.2
        | some ok =>
          rw [hk] at hb
          have hd2 : ok.dst = some e := by simpa using hb.2
          have e1 := huniq j z.on oj ok e hj hk hd hd2
          rw [e1]
          exact hafter z hz hb.1
    have hsi : Sim B N w S si h a := sim_facts hs fun e x hx => hs.slots e x (hneed e x hx)
    have hsz' : (listed.setIfInBounds i true).size = ops.size := by simp [hsz]
    have hc' : (listed.setIfInBounds i true).toList.count false = fuel := by
      rw [Array.toList_setIfInBounds, List.count_set (by simpa using hlt)]
      have h3 : listed.toList[i]'(by simpa using hlt) = false := by simpa using h2
      have h4 : (false == false) = true := rfl
      have h5 : (true == false) = false := rfl
      rw [h3, h4, h5, if_pos rfl, if_neg Bool.false_ne_true]
      omega
    have next : ∀ (w' : World) (S' : Nat → Prop) (s2 : Slots) (v : Value), Sim B N w' S' s2 h (a.put (some d) v) → look s2 d = some y → (∀ b, S b → S' b) → (∀ b, S b → w'.heap[b]? = w.heap[b]?) →
        wpAX P .any ops (postR B N Q) (fun _ => True) (fun _ => false) fuel (listed.setIfInBounds i true) (a.put (some d) v) w' := fun w' S' s2 v hs2 hy hS hw => by
      refine ih _ w' S' ((d, y) :: s') _ hsz' hc' (sim_facts hs2 fun e x hx => ?_) fun e x hx hav => ?_
      · rw [look_cons] at hx
        by_cases c : d = e
        · subst c
          rw [if_pos rfl] at hx
          cases hx
          exact hs2.slots d y hy
        · rw [if_neg c] at hx
          obtain ⟨u, hu, hv⟩ := hs.slots e x hx
          refine ⟨u, ?_, hv.mono hS hw⟩
          simp only [Act.put]
          rw [Array.getElem?_setIfInBounds_ne c]
          exact hu
      · rw [look_cons]
        by_cases c : d = e
        · subst c
          rw [if_pos rfl, ← hx, hA.val]
        · rw [if_neg c]
          refine hf e x hx fun j oj hj hd => ?_
          have := hav j oj hj hd
          rwa [getD_set_ne false (fun e1 => by
            subst e1
            have : oj = o' := Option.some.inj (hj.symm.trans hA.op)
            subst this
            exact c (Option.some.inj (hA.dst.symm.trans hd)))] at this
    refine wpOX_of_if hA.op ?_
    rcases hA.step with ⟨hw, hq⟩ | ⟨hw, rfl⟩
    · rw [if_pos (hw.wanted hsi.slots)]
      refine hq B w S a hsi _ _ fun v w' S' s2 h2 hk hs2 hu => ⟨fun _ _ => trivial, ?_⟩
      obtain ⟨s3, hG, hy⟩ := hk
      obtain ⟨S3, hs3, hS3⟩ := hG B N w' S' _ hs2
      rw [hA.dst] at hs3 ⊢
      exact next w' S3 s3 v hs3 hy (fun b hb => hS3 b (hu.stab b hb)) fun b hb => hu.keep b (hs.lt b hb) (fun h => h)
    · rw [if_neg (by rw [hw.unwanted hsi.slots]; simp), hA.dst]
      exact ⟨fun _ _ => trivial, next w S ((d, .v undef) :: s') undef (hs.put (.v _) hA.lt) (by rw [look_cons, if_pos rfl]) (fun _ h => h) fun _ _ => rfl⟩
theorem parW_op {i d : Nat} {r : List Nat} {acc : Slots} {o : Oper} {y : AV} {ds : List Nat} (ho : ops[i]? = some o) (hd : o.dst = some d) (hN : Nat.blt d N = true) (hl : look acc d = none) (hds : ds.all (directB ops o) = true) (hs : StepW P N ops o (sel acc ds) h d y) (K : ParW P N ops h Q r ((d, y) :: acc)) : ParW P N ops h Q (i :: r) acc := ⟨o, d, y, ds, ho, hd, hN, hl, hds, hs, K⟩
theorem parW_nil {acc : Slots} (H : Q .normal acc h) : ParW P N ops h Q [] acc := H
theorem awp_par (T : TT P) {ro : Option Nat} {id : Nat} {s : Slots} {l : List Nat} (hl : List.range ops.size = l) (hn : ops.toList.all ndO = true) (hearly : earlyB ops = true) (H : ParW P N ops h Q l s) : AWP P N ro (.region id ops true) Q s h := fun B w S a hs => by
  subst hl
  obtain ⟨accF, k1, k2, k3, k4, k5⟩ := par_ex _ _ H
  have hst : ∀ i, i < ops.size → ∃ o d y si, StepAt P N ops h accF i o d y si := fun i hi => by
    obtain ⟨o, d, y, si, a1, _⟩ := k4 i (List.mem_range.2 hi)
    exact ⟨o, d, y, si, a1⟩
  have huniq : ∀ (i j : Nat) (oi oj : Oper) (d : Nat), ops[i]? = some oi → ops[j]? = some oj → oi.dst = some d → oj.dst = some d → i = j := fun i j oi oj d h1 h2 h3 h4 => by
    have hi : i < ops.size := (Array.getElem?_eq_some_iff.1 h1).1
    have hj : j < ops.size := (Array.getElem?_eq_some_iff.1 h2).1
    rw [List.pairwise_iff_getElem] at k5
    rcases Nat.lt_trichotomy i j with c | c | c
    · have := k5 i j (by simpa using hi) (by simpa using hj) c
      simp only [List.getElem_range] at this
      exact absurd h4 (this oi oj d h1 h2 h3)
    · exact c
    · have := k5 j i (by simpa using hj) (by simpa using hi) c
      simp only [List.getElem_range] at this
      exact absurd h3 (this oj oi d h2 h1 h4)
  refine Code.wpIn_mono postR_post (wpIn_region_any T.mixed ?_)
  have hd := hs.drew
  refine wpAX.anyIn (S := fun _ => True) (ks := fun _ => false) hn _ _ _ _ (par_run k1 hst huniq hearly ops.size (Array.replicate ops.size false) w.drew S s a (by simp) (by simp) hd fun e x hx hav => ?_)
  rcases k3 e x hx with h1 | ⟨i, hi, o, h1, h2⟩
  · exact h1
  · have := hav i o h1 h2
    have hi' : i < ops.size := (Array.getElem?_eq_some_iff.1 h1).1
    simp [hi'] at this
end Go.Tl
end
section
namespace Go.Tl
open Go Go.RowKit
set_option linter.unusedVariables false
set_option linter.unusedSimpArgs false
section
variable {P : Program} {N : Nat} {s : Slots} {h : List Ent}
theorem awp_cutX {ro : Option Nat} {id : Nat} {x y : Code} {Q Q' : Exit → Slots → List Ent → Prop} (M : Slots → List Ent → Prop) (H1 : AWP P N ro x (blockQ id (cutQ M)) s h) (H2 : ∀ s' h', M s' h' → AWP P N ro y Q s' h') :
    AWP P N ro x (blockQ id (thenQ (AWP P N ro y Q) Q')) s h := by
  have key : ∀ s1 h1, cutQ M .normal s1 h1 → AWP P N ro y Q s1 h1 := fun s1 h1 ⟨_, s', h', hs, hh, hM⟩ => awp_weak hs hh (H2 s' h' hM)
  refine awp_mono H1 fun e s1 h1 hb => ?_
  cases e with
  | normal => exact key _ _ hb
  | exit i =>
    show cond (Nat.beq i id) (AWP P N ro y Q s1 h1) (Q' (.exit i) s1 h1)
    have hb' : cond (Nat.beq i id) (cutQ M .normal s1 h1) (cutQ M (.exit i) s1 h1) := hb
    cases hc : Nat.beq i id
    · rw [hc] at hb'; exact absurd hb'.1 (by simp)
    · rw [hc] at hb'; exact key _ _ hb'
  | _ => exact absurd hb.1 (by simp)
end
end Go.Tl
end
end
section
namespace Go.Proofs.Ytlpknbneilgjkaa.C
open Go Go.RowKit Go.Tl
set_option linter.unusedVariables false
set_option linter.unusedSimpArgs false
set_option maxRecDepth 100000
set_option maxHeartbeats 4000000
structure VMkt (m : MktD) : Prop where
  pos : 1 ≤ m.hou.length
  len : m.hou.length ≤ 6
  clen : m.con.length ≤ 8
  ex : 1 ≤ m.ex ∧ m.ex ≤ 200
  held : ∀ i, i < m.hou.length → 0 ≤ (m.hou.getD i default).lo ∧ (m.hou.getD i default).lo ≤ (m.hou.getD i default).hi ∧ (m.hou.getD i default).hi ≤ 200
  ask : ∀ i, i < m.hou.length → 0 ≤ (m.hou.getD i default).ask ∧ (m.hou.getD i default).ask ≤ 1000
  con : ∀ k, k < m.con.length → (0 ≤ (m.con.getD k default).sh ∧ (m.con.getD k default).sh < m.hou.length) ∧ (0 ≤ (m.con.getD k default).lg ∧ (m.con.getD k default).lg < m.hou.length) ∧ (m.con.getD k default).sh ≠ (m.con.getD k default).lg ∧ 1 ≤ (m.con.getD k default).n ∧ (m.con.getD k default).n ≤ 200
theorem vmkt {m : MktD} (h : faultN m = 0) : VMkt m := by
  unfold faultN at h
  split at h
  · cases h
  split at h
  · rename_i h1 h2
    obtain ⟨⟨h3, h4⟩, h5, h6⟩ := h2
    have k3 := inB_iff.1 h3
    have k5 : ∀ i, i < m.hou.length → houB (m.hou.getD i default) = true := all_getD.1 h5
    have k6 : ∀ i, i < m.con.length → conB m.hou.length (m.con.getD i default) = true := all_getD.1 h6
    refine ⟨by omega, by omega, by omega, k3, fun i hi => ?_, fun i hi => ?_, fun i hi => ?_⟩
    · have := k5 i hi
      simp only [houB, Bool.and_eq_true, inB_iff, decide_eq_true_eq] at this
      exact ⟨this.1, this.2.1, this.2.2.1⟩
    · have := k5 i hi
      simp only [houB, Bool.and_eq_true, inB_iff, decide_eq_true_eq] at this
      exact this.2.2.2
    · have := k6 i hi
      simp only [conB, Bool.and_eq_true, inB_iff, decide_eq_true_eq] at this
      exact ⟨by omega, by omega, this.2.2.1, this.2.2.2⟩
  · cases h
def owN (cs : List ConD) : Nat → Nat → Int
  | 0, _ => 0
  | k + 1, i => owN cs k i - (if (cs.getD k default).sh = (i : Int) then (cs.getD k default).n else 0) + (if (cs.getD k default).lg = (i : Int) then (cs.getD k default).n else 0)
abbrev owedN (m : MktD) (i : Nat) : Int := owN m.con m.con.length i
theorem ow_bd {cs : List ConD} (h : ∀ k, k < cs.length → 1 ≤ (cs.getD k default).n ∧ (cs.getD k default).n ≤ 200) (i : Nat) : ∀ k : Nat, k ≤ cs.length → -200 * (k : Int) ≤ owN cs k i ∧ owN cs k i ≤ 200 * (k : Int)
  | 0, _ => by simp [owN]
  | k + 1, hk => by
    have ih := ow_bd h i k (by omega)
    have hn := h k (by omega)
    simp only [owN]
    split <;> split <;> omega
theorem owed_bd {m : MktD} (hv : VMkt m) (i : Nat) : -1600 ≤ owedN m i ∧ owedN m i ≤ 1600 := by
  have h1 := ow_bd (cs := m.con) (fun k hk => (hv.con k hk).2.2.2) i m.con.length (Nat.le_refl _)
  have h2 := hv.clen
  show -1600 ≤ owN m.con m.con.length i ∧ owN m.con m.con.length i ≤ 1600
  omega
def needN (p : Int) : Int := max 0 (-p)
def spareN (h : HouD) (p : Int) : Int := if h.sells = true then max 0 p else 0
def leftN (m : MktD) (t : List Int) : Nat → Int
  | 0 => m.ex
  | k + 1 => leftN m t k - t.getD k 0
def truthB (m : MktD) (t : List Int) : Bool := decide (t.length = m.hou.length) && ((List.range m.hou.length).all fun k => inB (t.getD k 0) (m.hou.getD k default).lo (m.hou.getD k default).hi) && decide (leftN m t m.hou.length = 0)
theorem truth_iff {m : MktD} {t : List Int} : truthB m t = true ↔ t.length = m.hou.length ∧ (∀ k, k < m.hou.length → inB (t.getD k 0) (m.hou.getD k default).lo (m.hou.getD k default).hi = true) ∧ leftN m t m.hou.length = 0 := by
  unfold truthB
  simp only [Bool.and_eq_true, decide_eq_true_eq, List.all_eq_true, List.mem_range, and_assoc]
theorem arrI_zero : ([intA 0, intA 0, intA 0, intA 0, intA 0, intA 0] : List AV) = arrI (fun _ => 0) 6 := rfl
attribute [local irreducible] AWP AWL AOp PV LV AWT AWE
section
variable {g1 g2 g4 : Nat} {js jl k : Nat} {nn : Int} {d d' : Nat → Int} {T : AV} {n : Int}
theorem cb_4 (hj : js < 6) (hb : -2000 ≤ d js ∧ d js ≤ 2000) (hn : 0 ≤ nn ∧ nn ≤ 2000) (hd : ∀ q, q < 6 → d' q = if q = js then d js - nn else d q) {ops : Array Oper} (h : regF Try.f216 4 = some ops) :
    AWP Try.prog Try.f216.ntmps none (.region 4 ops true) (cutQ (fun s h => s = [(1, .v (ptrV g1)), (2, .v (ptrV g2)), (4, .v (ptrV g4)), (6, T), (7, intA n), (8, intA k)] ∧ h = [.cl g4 188 [intA js, intA jl, intA nn], .cl g2 324 (arrI d' 6)]))
      [(1, .v (ptrV g1)), (2, .v (ptrV g2)), (4, .v (ptrV g4)), (6, T), (7, intA n), (8, intA k)] [.cl g4 188 [intA js, intA jl, intA nn], .cl g2 324 (arrI d 6)] := by
  cases h
  have r1 : (arrI d 6)[js]? = some (intA (d js)) := arrI_at hj
  refine awp_tree T0 [(0, 0), (1, 1), (2, 0), (4, 0), (5, 1), (3, 2), (6, 0), (7, 0), (8, 3)] (.op 0 0 (.op 1 1 (.op 2 0 (.op 4 0 (.op 5 1 (.op 3 2 (.op 6 0 (.op 7 0 (.op 8 3 .stop))))))))) [.cl g4 _ _] rfl (by kernel_rfl) rcA ?_
  refine awt_po rfl (wt_none rfl) (pv_fa T0 rfl rfl rfl (by simp; rfl)) rfl rfl ?_
  refine awt_lo rfl (wt_none rfl) (lv_cl1 T0 rfl rfl rfl rcA raA) rfl rfl rfl ?_
  refine awt_po rfl (wt_none rfl) (pv_ix_arr T0 rfl rfl rfl rfl (by omega) (by simp; rfl)) rfl rfl ?_
  refine awt_po rfl (wt_none rfl) (pv_fa T0 rfl rfl rfl (by simp; rfl)) rfl rfl ?_
  refine awt_lo rfl (wt_none rfl) (lv_cl1 T0 rfl rfl rfl rcA raA) rfl rfl rfl ?_
  refine awt_h (hm := []) rfl (wt_none rfl) rcA rfl (aop_lv (lv_cl1 T0 rfl rfl rfl rcA r1) rfl (blt_lt rfl) ?_)
  refine awt_n1 rfl (wt_none rfl) (pv_sub rfl rfl rfl (by first | assumption | exact wr64 (by omega))) rfl rfl rfl ?_
  refine awt_po rfl (wt_none rfl) (pv_ix_arr T0 rfl rfl rfl rfl (by omega) (by simp; rfl)) rfl rfl ?_
  refine awt_s (md := fun _ => True) rfl (wt_none rfl) (st_arrI T0 rfl rfl rfl rfl rfl rcA hj hd trivial ?_)
  refine awe_end ?_
  exact cut_n ⟨rfl, rfl⟩ ssA rcA
theorem cb_5 (hj : jl < 6) (hb : -2000 ≤ d jl ∧ d jl ≤ 2000) (hn : 0 ≤ nn ∧ nn ≤ 2000) (hd : ∀ q, q < 6 → d' q = if q = jl then d jl + nn else d q) {ops : Array Oper} (h : regF Try.f216 5 = some ops) :
    AWP Try.prog Try.f216.ntmps none (.region 5 ops true) (cutQ (fun s h => s = [(1, .v (ptrV g1)), (2, .v (ptrV g2)), (6, T), (7, intA n), (8, intA k)] ∧ h = [.cl g2 324 (arrI d' 6)]))
      [(1, .v (ptrV g1)), (2, .v (ptrV g2)), (4, .v (ptrV g4)), (6, T), (7, intA n), (8, intA k)] [.cl g4 188 [intA js, intA jl, intA nn], .cl g2 324 (arrI d 6)] := by
  cases h
  have r1 : (arrI d 6)[jl]? = some (intA (d jl)) := arrI_at hj
  refine awp_tree T0 [(0, 0), (1, 1), (2, 0), (4, 0), (5, 1), (3, 2), (6, 0), (7, 0), (8, 3)] (.op 0 0 (.op 1 1 (.op 2 0 (.op 4 0 (.op 5 1 (.op 3 2 (.op 6 0 (.op 7 0 (.op 8 3 .stop))))))))) [.cl g4 _ _] rfl (by kernel_rfl) rcA ?_
  refine awt_po rfl (wt_none rfl) (pv_fa T0 rfl rfl rfl (by simp; rfl)) rfl rfl ?_
  refine awt_lo rfl (wt_none rfl) (lv_cl1 T0 rfl rfl rfl rcA raA) rfl rfl rfl ?_
  refine awt_po rfl (wt_none rfl) (pv_ix_arr T0 rfl rfl rfl rfl (by omega) (by simp; rfl)) rfl rfl ?_
  refine awt_po rfl (wt_none rfl) (pv_fa T0 rfl rfl rfl (by simp; rfl)) rfl rfl ?_
  refine awt_lo rfl (wt_none rfl) (lv_cl1 T0 rfl rfl rfl rcA raA) rfl rfl rfl ?_
  refine awt_h (hm := []) rfl (wt_none rfl) rcA rfl (aop_lv (lv_cl1 T0 rfl rfl rfl rcA r1) rfl (blt_lt rfl) ?_)
  refine awt_n1 rfl (wt_none rfl) (pv_add rfl rfl rfl (by first | assumption | exact wr64 (by omega))) rfl rfl rfl ?_
  refine awt_po rfl (wt_none rfl) (pv_ix_arr T0 rfl rfl rfl rfl (by omega) (by simp; rfl)) rfl rfl ?_
  refine awt_s (md := fun _ => True) rfl (wt_none rfl) (st_arrI T0 rfl rfl rfl rfl rfl rcA hj hd trivial ?_)
  refine awe_end ?_
  exact cut_n ⟨rfl, rfl⟩ ssA rcA
end
theorem owed_p (cp cc : Bool) (m : MktD) (hv : VMkt m) : PCall Try.prog 216 [mktA cp cc m] (fun r => r = .ag (arrI (owedN m) 6)) := by
  have hlen := hv.len
  have hcl := hv.clen
  refine acall_of_awp T0 Try.func216 rfl rfl rfl ?_
  repeat (first | refine awp_seq ?_ | refine awp_region_lit rfl ?_)
  refine awl_hw (wt_none rfl) (st_box rfl rfl raA (by first | assumption | (simp only [cellsA]; rfl)) rfl rfl ?_)
  intro g1
  skip
  refine awl_hw (wt_none rfl) (st_alloc T0 rfl rfl rfl rfl scA ?_)
  intro g2
  repeat (first | refine awp_seq ?_ | refine awp_block ?_ | refine awp_region_lit rfl ?_ | (show AWL _ _ _ (⟨_, .move _, _, _, _, _⟩ :: _) _ _ _; refine awl_pw (wt_none rfl) (pv_move rfl rfl) rfl rfl ?_) | (show AWL _ _ _ (⟨_, .load _ _, _, _, _, _⟩ :: _) _ _ _; refine awl_lw (wt_none rfl) (lv_cl1 T0 rfl rfl rfl rcA raA) rfl rfl rfl ?_) | (show AWL _ _ _ (⟨_, .fieldAddr _ _ _, _, _, _, _⟩ :: _) _ _ _; refine awl_pw (wt_none rfl) (pv_fa T0 rfl rfl rfl (by simp; rfl)) rfl rfl ?_) | (show AWL _ _ _ (⟨_, .call ⟨.builtin .len, _, _⟩, _, _, _, _⟩ :: _) _ _ _; refine awl_pw (wt_none rfl) (pv_len_t T0 rfl rfl rfl) rfl rfl ?_) | refine awl_nil ?_)
  rw [arrI_zero]
  refine awp_loop (fun q s h => ∃ (k : Nat), k ≤ m.con.length ∧ q = m.con.length - k ∧ s = [(1, .v (ptrV g1)), (2, .v (ptrV g2)), (6, .t (consT cc m.con)), (7, intA m.con.length), (8, intA k)] ∧ h = [.cl g2 324 (arrI (owN m.con k) 6)]) ?_ ⟨0, Nat.zero_le _, rfl, rfl, rfl⟩ ssA rcA
  rintro q s h ⟨k, hk, rfl, rfl, rfl⟩
  by_cases hkt : k < m.con.length
  case neg =>
    obtain rfl : k = m.con.length := by omega
    repeat (first | refine awp_seq ?_ | refine awp_region_lit rfl ?_ | refine awp_exit ?_ | refine awp_ret ?_ | refine awp_cond_f rfl (by first | rfl | assumption | exact dF (by omega)) ?_ | (show AWL _ _ _ (⟨_, .load _ _, _, _, _, _⟩ :: _) _ _ _; refine awl_lw (wt_none rfl) (lv_cla T0 rfl rfl rfl rcA rfl) rfl rfl rfl ?_) | (show AWL _ _ _ (⟨_, .binOp .lss _ _ _ _, _, _, _, _⟩ :: _) _ _ _; refine awl_pw (wt_none rfl) (pv_lss rfl rfl rfl) rfl rfl ?_) | (show AWL _ _ _ (⟨_, .store _ _ _, _, _, _, _⟩ :: _) _ _ _; refine awl_hw (wt_none rfl) (st_store T0 rfl rfl rfl rfl rfl (by first | assumption | (simp only [cellsA]; rfl)) rfl rfl rfl rcA rcA trivial ?_)) | refine awl_nil ?_)
    refine body_p (res_cell rfl rfl rcA rfl rfl rfl .nil) ?_
    rfl
  obtain ⟨hs, hl, hne, hn⟩ := hv.con k hkt
  have hb := fun i => ow_bd (cs := m.con) (fun k hk => (hv.con k hk).2.2.2) i k (by omega)
  obtain ⟨js, hjs⟩ : ∃ j : Nat, (m.con.getD k default).sh = j := ⟨(m.con.getD k default).sh.toNat, by omega⟩
  obtain ⟨jl, hjl⟩ : ∃ j : Nat, (m.con.getD k default).lg = j := ⟨(m.con.getD k default).lg.toNat, by omega⟩
  have hjs' : (m.con.getD k default).sh = (js : Int) := hjs
  have hjl' : (m.con.getD k default).lg = (jl : Int) := hjl
  have hst : ∀ i, owN m.con (k + 1) i = owN m.con k i - (if (js : Int) = (i : Int) then (m.con.getD k default).n else 0) + (if (jl : Int) = (i : Int) then (m.con.getD k default).n else 0) := fun i => by rw [← hjs', ← hjl']; rfl
  have hn' : 1 ≤ (m.con.getD k default).n ∧ (m.con.getD k default).n ≤ 200 := hn
  have hb1 := hb js
  have hb2 := hb jl
  have r1 : (arrI (owN m.con k) 6)[js]? = some (intA (owN m.con k js)) := arrI_at (by omega)
  obtain ⟨D, hD⟩ : ∃ D : Nat → Int, ∀ q, D q = if q = js then owN m.con k js - (m.con.getD k default).n else owN m.con k q := ⟨fun q => if q = js then owN m.con k js - (m.con.getD k default).n else owN m.con k q, fun _ => rfl⟩
  have hDl : D jl = owN m.con k jl := by rw [hD, if_neg (by omega)]
  have r2 : (arrI D 6)[jl]? = some (intA (owN m.con k jl)) := by rw [arrI_at (by omega), hDl]
  have hsd : ∀ q, q < 6 → owN m.con (k + 1) q = if q = jl then owN m.con k jl + (m.con.getD k default).n else D q := by
    intro q hq
    rw [hst, hD]
    by_cases e1 : q = js
    · subst e1; (repeat' split) <;> omega
    · by_cases e2 : q = jl
      · subst e2; (repeat' split) <;> omega
      · (repeat' split) <;> omega
  have hj6 : js < 6 := by omega
  have hl6 : jl < 6 := by omega
  repeat (first | refine awp_seq ?_ | refine awp_block ?_ | refine awp_region_lit rfl ?_ | refine awp_skip ?_ | refine awp_cond_t rfl (by first | rfl | assumption | exact dT (by omega)) ?_ | (show AWL _ _ _ (⟨_, .load _ _, _, _, _, _⟩ :: _) _ _ _; refine awl_lw (wt_none rfl) (lv_elt_ag T0 rfl rfl rfl rfl rcA) rfl rfl rfl ?_) | (show AWL _ _ _ (⟨_, .indexAddr _ _ _, _, _, _, _⟩ :: _) _ _ _; refine awl_pw (wt_none rfl) (pv_ix_t T0 rfl rfl rfl rfl (by omega) ixA) rfl rfl ?_) | (show AWL _ _ _ (⟨_, .binOp .lss _ _ _ _, _, _, _, _⟩ :: _) _ _ _; refine awl_pw (wt_none rfl) (pv_lss rfl rfl rfl) rfl rfl ?_) | refine awl_nil ?_)
  refine awl_hw (wt_none rfl) (st_alloc T0 rfl rfl rfl rfl scA ?_)
  intro g4
  repeat (first | refine awp_seq ?_ | (show AWL _ _ _ (⟨_, .store _ _ _, _, _, _, _⟩ :: _) _ _ _; refine awl_hw (wt_none rfl) (st_store T0 rfl rfl rfl rfl rfl (by first | assumption | (simp only [cellsA]; rfl)) rfl rfl rfl rcA rcA trivial ?_)) | refine awl_nil ?_)
  rw [hjs', hjl']
  generalize (m.con.getD k default).n = nn at *
  have hDb : -2000 ≤ D jl ∧ D jl ≤ 2000 := by rw [hDl]; omega
  refine awp_cut _ (awp_weak ssA rcA (cb_4 (d := owN m.con k) (d' := D) (g1 := g1) (g4 := g4) (T := .t (consT cc m.con)) (n := m.con.length) (k := k) (jl := jl) hj6 (by omega) (by omega) (fun q _ => hD q) rfl)) ?_
  rintro s h ⟨rfl, rfl⟩
  refine awp_cutB _ (awp_weak ssA rcA (cb_5 (d := D) (d' := owN m.con (k + 1)) (g1 := g1) (T := .t (consT cc m.con)) (n := m.con.length) (k := k) hl6 hDb (by omega) (fun q hq => by rw [hDl]; exact hsd q hq) rfl)) ?_
  rintro s h ⟨rfl, rfl⟩
  repeat (first | refine awp_region_lit rfl ?_ | (show AWL _ _ _ (⟨_, .move _, _, _, _, _⟩ :: _) _ _ _; refine awl_pw (wt_none rfl) (pv_move rfl rfl) rfl rfl ?_) | (show AWL _ _ _ (⟨_, .binOp .add _ _ _ _, _, _, _, _⟩ :: _) _ _ _; refine awl_pw (wt_none rfl) (pv_add rfl rfl rfl (by first | assumption | exact wr64 (by omega))) rfl rfl ?_) | refine awl_nil ?_)
  refine rnd_n _ _ _ ?_ ⟨k + 1, by omega, rfl, rfl, rfl⟩ ssA rcA
  omega
theorem need_p (hh : HouD) (p : Int) (hp : -1000000 ≤ p ∧ p ≤ 1000000) : PCall Try.prog 217 [houA hh, intA p] (fun r => r = intA (needN p)) := by
  have h0 : (0 : Int) - p = -p := by omega
  refine acall_of_awp T0 Try.func217 rfl rfl rfl ?_
  repeat (first | refine awp_seq ?_ | refine awp_region_lit rfl ?_)
  refine awl_hw (wt_none rfl) (st_box rfl rfl raA (by first | assumption | (simp only [cellsA]; rfl)) rfl rfl ?_)
  intro g2
  repeat (first | refine awp_seq ?_ | refine awp_region_lit rfl ?_ | (show AWL _ _ _ (⟨_, .move _, _, _, _, _⟩ :: _) _ _ _; refine awl_pw (wt_none rfl) (pv_move rfl rfl) rfl rfl ?_) | (show AWL _ _ _ (⟨_, .assign _, _, _, _, _⟩ :: _) _ _ _; refine awl_pw (wt_none rfl) (pv_assign rfl rfl) rfl rfl ?_) | refine awl_nil ?_)
  refine awl_pw (wt_none rfl) (pv_neg (c := -p) rfl rfl (by rw [h0]; exact wr64 (by omega))) rfl rfl ?_
  repeat (first | refine awp_ret ?_ | (show AWL _ _ _ (⟨_, .assign _, _, _, _, _⟩ :: _) _ _ _; refine awl_pw (wt_none rfl) (pv_assign rfl rfl) rfl rfl ?_) | (show AWL _ _ _ (⟨_, .call ⟨.builtin .max, _, _⟩, _, _, _, _⟩ :: _) _ _ _; refine awl_pw (wt_none rfl) (pv_max2 rfl rfl rfl) rfl rfl ?_) | refine awl_nil ?_)
  exact body_p (.cons rfl .nil) rfl
theorem spare_p (hh : HouD) (p : Int) : PCall Try.prog 218 [houA hh, intA p] (fun r => r = intA (spareN hh p)) := by
  refine acall_of_awp T0 Try.func218 rfl rfl rfl ?_
  obtain ⟨lo, hi, sells, ask⟩ := hh
  cases sells
  · repeat (first | refine awp_seq ?_ | refine awp_region_lit rfl ?_)
    refine awl_hw (wt_none rfl) (st_box rfl rfl raA (by first | assumption | (simp only [cellsA]; rfl)) rfl rfl ?_)
    intro g2
    repeat (first | refine awp_seq ?_ | refine awp_region_lit rfl ?_ | refine awp_ret ?_ | with_reducible refine then_n ?_ | with_reducible refine then_r ?_ | refine awp_cond_t rfl (by first | rfl | assumption | exact dT (by omega)) ?_ | (show AWL _ _ _ (⟨_, .assign _, _, _, _, _⟩ :: _) _ _ _; refine awl_pw (wt_none rfl) (pv_assign rfl rfl) rfl rfl ?_) | (show AWL _ _ _ (⟨_, .load _ _, _, _, _, _⟩ :: _) _ _ _; refine awl_lw (wt_none rfl) (lv_cl1 T0 rfl rfl rfl rcA raA) rfl rfl rfl ?_) | (show AWL _ _ _ (⟨_, .fieldAddr _ _ _, _, _, _, _⟩ :: _) _ _ _; refine awl_pw (wt_none rfl) (pv_fa T0 rfl rfl rfl (by simp; rfl)) rfl rfl ?_) | (show AWL _ _ _ (⟨_, .unOp .not _ _, _, _, _, _⟩ :: _) _ _ _; refine awl_pw (wt_none rfl) (pv_not rfl rfl) rfl rfl ?_) | refine awl_nil ?_)
    exact body_p (.cons rfl .nil) rfl
  · repeat (first | refine awp_seq ?_ | refine awp_region_lit rfl ?_)
    refine awl_hw (wt_none rfl) (st_box rfl rfl raA (by first | assumption | (simp only [cellsA]; rfl)) rfl rfl ?_)
    intro g2
    repeat (first | refine awp_seq ?_ | refine awp_region_lit rfl ?_ | refine awp_skip ?_ | refine awp_ret ?_ | with_reducible refine then_n ?_ | refine awp_cond_f rfl (by first | rfl | assumption | exact dF (by omega)) ?_ | (show AWL _ _ _ (⟨_, .move _, _, _, _, _⟩ :: _) _ _ _; refine awl_pw (wt_none rfl) (pv_move rfl rfl) rfl rfl ?_) | (show AWL _ _ _ (⟨_, .assign _, _, _, _, _⟩ :: _) _ _ _; refine awl_pw (wt_none rfl) (pv_assign rfl rfl) rfl rfl ?_) | (show AWL _ _ _ (⟨_, .load _ _, _, _, _, _⟩ :: _) _ _ _; refine awl_lw (wt_none rfl) (lv_cl1 T0 rfl rfl rfl rcA raA) rfl rfl rfl ?_) | (show AWL _ _ _ (⟨_, .fieldAddr _ _ _, _, _, _, _⟩ :: _) _ _ _; refine awl_pw (wt_none rfl) (pv_fa T0 rfl rfl rfl (by simp; rfl)) rfl rfl ?_) | (show AWL _ _ _ (⟨_, .call ⟨.builtin .max, _, _⟩, _, _, _, _⟩ :: _) _ _ _; refine awl_pw (wt_none rfl) (pv_max2 rfl rfl rfl) rfl rfl ?_) | (show AWL _ _ _ (⟨_, .unOp .not _ _, _, _, _, _⟩ :: _) _ _ _; refine awl_pw (wt_none rfl) (pv_not rfl rfl) rfl rfl ?_) | refine awl_nil ?_)
    exact body_p (.cons rfl .nil) rfl
theorem needN_bd {p : Int} (hp : -1000000 ≤ p ∧ p ≤ 1000000) : 0 ≤ needN p ∧ needN p ≤ 1000000 := by unfold needN; omega
theorem spareN_bd {hh : HouD} {p : Int} (hp : -1000000 ≤ p ∧ p ≤ 1000000) : 0 ≤ spareN hh p ∧ spareN hh p ≤ 1000000 := by unfold spareN; split <;> omega
theorem short_p (hh : HouD) (p : Int) (hp : -1000000 ≤ p ∧ p ≤ 1000000) : PCall Try.prog 199 [houA hh, intA p] (fun r => r = intA (needN p - spareN hh p)) := by
  have h1 := needN_bd hp
  have h2 := spareN_bd (hh := hh) hp
  refine acall_of_awp T0 Try.func199 rfl rfl rfl ?_
  repeat (first | refine awp_seq ?_ | refine awp_region_lit rfl ?_)
  refine awl_hw (wt_none rfl) (st_box rfl rfl raA (by first | assumption | (simp only [cellsA]; rfl)) rfl rfl ?_)
  intro g2
  repeat (first | refine awp_seq ?_ | (show AWL _ _ _ (⟨_, .assign _, _, _, _, _⟩ :: _) _ _ _; refine awl_pw (wt_none rfl) (pv_assign rfl rfl) rfl rfl ?_) | refine awl_nil ?_)
  refine awp_cut (M := fun s h => s = [(4, intA (needN p - spareN hh p))] ∧ h = []) ?_ ?_
  · refine awp_weak (s' := [(2, .v (ptrV g2)), (1, intA p)]) (h' := [.cl g2 186 [intA hh.lo, intA hh.hi, boolA hh.sells, intA hh.ask]]) ssA rcA ?_
    refine awp_par T0 (l := (0 :: 1 :: 2 :: 3 :: 4 :: 5 :: 6 :: 7 :: [])) rfl (by kernel_rfl) (by kernel_rfl) ?_
    apply parW_op (ds := [2]) rfl rfl rfl rfl (by kernel_rfl)
    · exact .inl ⟨(wt_none rfl), stepQ_lv (lv_cla T0 rfl rfl rfl rcA rfl) rfl rfl⟩
    apply parW_op (ds := [1]) rfl rfl rfl rfl (by kernel_rfl)
    · exact .inl ⟨(wt_none rfl), stepQ_pv (pv_move rfl rfl) rfl rfl⟩
    apply parW_op (ds := [5, 6]) rfl rfl rfl rfl (by kernel_rfl)
    · refine .inl ⟨(wt_none rfl), ?_⟩
      refine st_call T0 (need_p hh p hp) rfl rfl rfl rfl (by first | exact callee_lit | exact callee_v | exact callee_fn | assumption) rcA raA rfl ?_
      rintro _ rfl
      exact ⟨_, Ghost.refl, rfl⟩
    apply parW_op (ds := [2]) rfl rfl rfl rfl (by kernel_rfl)
    · exact .inl ⟨(wt_none rfl), stepQ_lv (lv_cla T0 rfl rfl rfl rcA rfl) rfl rfl⟩
    apply parW_op (ds := [1]) rfl rfl rfl rfl (by kernel_rfl)
    · exact .inl ⟨(wt_none rfl), stepQ_pv (pv_move rfl rfl) rfl rfl⟩
    apply parW_op (ds := [8, 9]) rfl rfl rfl rfl (by kernel_rfl)
    · refine .inl ⟨(wt_none rfl), ?_⟩
      refine st_call T0 (spare_p hh p) rfl rfl rfl rfl (by first | exact callee_lit | exact callee_v | exact callee_fn | assumption) rcA raA rfl ?_
      rintro _ rfl
      exact ⟨_, Ghost.refl, rfl⟩
    apply parW_op (ds := [7, 10]) rfl rfl rfl rfl (by kernel_rfl)
    · exact .inl ⟨(wt_none rfl), stepQ_pv (pv_sub rfl rfl rfl (by first | assumption | exact wr64 (by omega))) rfl rfl⟩
    apply parW_op (ds := [11]) rfl rfl rfl rfl (by kernel_rfl)
    · exact .inl ⟨(wt_none rfl), stepQ_pv (pv_assign rfl rfl) rfl rfl⟩
    refine parW_nil ?_
    exact cut_n ⟨rfl, rfl⟩ ssA rcA
  rintro s h ⟨rfl, rfl⟩
  repeat (first | refine awp_ret ?_)
  exact body_p (.cons rfl .nil) rfl
theorem surplus_p (hh : HouD) (p : Int) (hp : -1000000 ≤ p ∧ p ≤ 1000000) : PCall Try.prog 201 [houA hh, intA p] (fun r => r = intA (spareN hh p - needN p)) := by
  have h1 := needN_bd hp
  have h2 := spareN_bd (hh := hh) hp
  refine acall_of_awp T0 Try.func201 rfl rfl rfl ?_
  repeat (first | refine awp_seq ?_ | refine awp_region_lit rfl ?_)
  refine awl_hw (wt_none rfl) (st_box rfl rfl raA (by first | assumption | (simp only [cellsA]; rfl)) rfl rfl ?_)
  intro g2
  repeat (first | refine awp_seq ?_ | (show AWL _ _ _ (⟨_, .assign _, _, _, _, _⟩ :: _) _ _ _; refine awl_pw (wt_none rfl) (pv_assign rfl rfl) rfl rfl ?_) | refine awl_nil ?_)
  refine awp_cut (M := fun s h => s = [(4, intA (spareN hh p - needN p))] ∧ h = []) ?_ ?_
  · refine awp_weak (s' := [(2, .v (ptrV g2)), (1, intA p)]) (h' := [.cl g2 186 [intA hh.lo, intA hh.hi, boolA hh.sells, intA hh.ask]]) ssA rcA ?_
    refine awp_par T0 (l := (0 :: 1 :: 2 :: 3 :: 4 :: 5 :: 6 :: 7 :: [])) rfl (by kernel_rfl) (by kernel_rfl) ?_
    apply parW_op (ds := [2]) rfl rfl rfl rfl (by kernel_rfl)
    · exact .inl ⟨(wt_none rfl), stepQ_lv (lv_cla T0 rfl rfl rfl rcA rfl) rfl rfl⟩
    apply parW_op (ds := [1]) rfl rfl rfl rfl (by kernel_rfl)
    · exact .inl ⟨(wt_none rfl), stepQ_pv (pv_move rfl rfl) rfl rfl⟩
    apply parW_op (ds := [5, 6]) rfl rfl rfl rfl (by kernel_rfl)
    · refine .inl ⟨(wt_none rfl), ?_⟩
      refine st_call T0 (spare_p hh p) rfl rfl rfl rfl (by first | exact callee_lit | exact callee_v | exact callee_fn | assumption) rcA raA rfl ?_
      rintro _ rfl
      exact ⟨_, Ghost.refl, rfl⟩
    apply parW_op (ds := [2]) rfl rfl rfl rfl (by kernel_rfl)
    · exact .inl ⟨(wt_none rfl), stepQ_lv (lv_cla T0 rfl rfl rfl rcA rfl) rfl rfl⟩
    apply parW_op (ds := [1]) rfl rfl rfl rfl (by kernel_rfl)
    · exact .inl ⟨(wt_none rfl), stepQ_pv (pv_move rfl rfl) rfl rfl⟩
    apply parW_op (ds := [8, 9]) rfl rfl rfl rfl (by kernel_rfl)
    · refine .inl ⟨(wt_none rfl), ?_⟩
      refine st_call T0 (need_p hh p hp) rfl rfl rfl rfl (by first | exact callee_lit | exact callee_v | exact callee_fn | assumption) rcA raA rfl ?_
      rintro _ rfl
      exact ⟨_, Ghost.refl, rfl⟩
    apply parW_op (ds := [7, 10]) rfl rfl rfl rfl (by kernel_rfl)
    · exact .inl ⟨(wt_none rfl), stepQ_pv (pv_sub rfl rfl rfl (by first | assumption | exact wr64 (by omega))) rfl rfl⟩
    apply parW_op (ds := [11]) rfl rfl rfl rfl (by kernel_rfl)
    · exact .inl ⟨(wt_none rfl), stepQ_pv (pv_assign rfl rfl) rfl rfl⟩
    refine parW_nil ?_
    exact cut_n ⟨rfl, rfl⟩ ssA rcA
  rintro s h ⟨rfl, rfl⟩
  repeat (first | refine awp_ret ?_)
  exact body_p (.cons rfl .nil) rfl
end Go.Proofs.Ytlpknbneilgjkaa.C
end
section
namespace Go.Proofs.Ytlpknbneilgjkaa.C
open Go Go.RowKit Go.Tl
set_option linter.unusedVariables false
set_option linter.unusedSimpArgs false
set_option maxRecDepth 100000
set_option maxHeartbeats 4000000
attribute [local irreducible] AWP AWL AOp PV LV AWT AWE
section
variable {g2 g6 g8 k : Nat} {ct : Bool} {m : MktD} {t : List Int} {d d' : Nat → Int} {hh : HouD} {a1 a2 : Option Addr} {c1 c2 : Nat} {rows1 rows2 : List (List AV)} {u12 u13 : AV} {e2 : Ent}
end
theorem nil_tree {cp : Bool} {sz : Nat} {f : Nat → List Tr} (w : World) (S : Nat → Prop) : TRel w S (.sl cp sz 0 f) (.slice none 0 0) :=
  .sl (fun _ _ => .int .i64 0) (fun _ => Nat.le_refl _) (fun k hk => absurd hk (Nat.not_lt_zero _)) (fun k hk => absurd hk (Nat.not_lt_zero _)) (fun k j x hk => absurd hk (Nat.not_lt_zero _))
end Go.Proofs.Ytlpknbneilgjkaa.C
end
section
section
namespace Go.Tl
open Go Go.RowKit
set_option linter.unusedSimpArgs false
set_option linter.unusedVariables false
theorem acall_ownG {P : Program} {g : Nat} {v : Value} {E sz n : Nat} {rows : List (List AV)} {f : Nat → List Tr} {args : List AV} {hc : List Ent} {Q : AV → List Ent → Prop} (C : ACall P g (.t (.sl true sz n f) :: args) hc Q) (hn : rows.length = n) (hf : ∀ k, k < n → rows.getD k [] = (f k).map AV.ofTr) :
    ACall P g (.v v :: args) (.rw v E sz rows :: hc) Q := fun w S vs h1 h2 h3 => by
  have he := h2.ent _ List.mem_cons_self
  have ht := row_tree he hn hf
  have hlt' : ∀ b, (S b ∨ v.ownBlock = some b) → b < w.heap.size := fun b hb => by
    rcases hb with hb | hb
    · exact h1 b hb
    · obtain ⟨xs, ho, _⟩ := he
      exact (ho.lt b hb).2
  obtain ⟨u, us, rfl, hu, h4⟩ := Go.Proofs.Ytlpknbneilgjkaa.rels1 h3
  have eu := hu.lit_inv
  subst eu
  have h2' := h2.freeze (Pick.here (l := hc))
  refine (C w _ (u :: us) hlt' h2' (.cons (.t ht) (h4.mono (fun _ h => .inl h) (fun _ _ => rfl)))).mono fun e w' ⟨v', S'', r, h', e1, hq, hvr, E', hlt, hr, hl⟩ => ⟨v', S'', r, h', e1, hq, hvr, ⟨E'.os, E'.tape, E'.output, E'.size, fun b hb hno => E'.keep b hb (fun ⟨e, he, hg⟩ => hno ⟨e, List.mem_cons_of_mem _ he, hg⟩), fun b hb => E'.stab b (.inl hb), fun b hb => ?_⟩, hlt, hr, fun e he g hg => ?_⟩
  · rcases E'.new b hb with (h | h) | h | ⟨e, he, hg⟩
    · exact .inl h
    · exact .inr (.inr ⟨_, List.mem_cons_self, h⟩)
    · exact .inr (.inl h)
    · exact .inr (.inr ⟨e, List.mem_cons_of_mem _ he, hg⟩)
  · rcases hl e he g hg with ⟨e2, he2, hg2⟩ | h
    · exact .inl ⟨e2, List.mem_cons_of_mem _ he2, hg2⟩
    · exact .inr h
theorem acall_nilG {P : Program} {g : Nat} {cp : Bool} {f : Nat → List Tr} {args : List AV} {hc : List Ent} {Q : AV → List Ent → Prop} (C : ACall P g (.t (.sl cp 1 0 f) :: args) hc Q) : ACall P g (.v (.slice none 0 0) :: args) hc Q := fun w S vs h1 h2 h3 => by
  obtain ⟨u, us, rfl, hu, h4⟩ := Go.Proofs.Ytlpknbneilgjkaa.rels1 h3
  have eu := hu.lit_inv
  subst eu
  exact C w S _ h1 h2 (.cons (.t (.sl (fun _ _ => .int .i64 0) (fun _ => Nat.le_refl _) (fun k hk => absurd hk (Nat.not_lt_zero _)) (fun k hk => absurd hk (Nat.not_lt_zero _)) (fun k j x hk => absurd hk (Nat.not_lt_zero _)))) h4)
end Go.Tl
namespace Go.Proofs.Ytlpknbneilgjkaa.C
open Go Go.RowKit Go.Tl
set_option linter.unusedVariables false
set_option linter.unusedSimpArgs false
set_option maxRecDepth 100000
set_option maxHeartbeats 4000000
theorem conOne (cs : List HouD) : ∀ k, k < cs.length → ∀ u ∈ houL (cs.getD k default), oneA (AV.ofTr u) = true := fun k hk u hu => by
  simp only [houL, List.mem_cons, List.not_mem_nil, or_false] at hu
  rcases hu with rfl | rfl | rfl | rfl <;> rfl
def mnL (xs : List Int) : Nat → Int
  | 0 => xs.getD 0 0
  | k + 1 => min (mnL xs k) (xs.getD (k + 1) 0)
attribute [local irreducible] AWP AWL AOp PV LV AWT AWE
theorem iclone_o (cp : Bool) (l : List Int) (hl : l.length ≤ 1000) : ACall Try.prog 66 [.t (intsT cp l)] [] (fun r h' => ∃ (a : Option Addr) (c : Nat), r = .v (.slice a l.length c) ∧ h' = [.rw (.slice a l.length c) 3 1 (l.map intRow)]) := by
  refine acall_of_awp T0 Try.func66 rfl rfl rfl ?_
  repeat (first | refine awp_seq ?_ | refine awp_region_lit rfl ?_ | (show AWL _ _ _ (⟨_, .move _, _, _, _, _⟩ :: _) _ _ _; refine awl_pw (wt_none rfl) (pv_move rfl rfl) rfl rfl ?_) | (show AWL _ _ _ (⟨_, .assign _, _, _, _, _⟩ :: _) _ _ _; refine awl_pw (wt_none rfl) (pv_assign rfl rfl) rfl rfl ?_) | refine awl_nil ?_)
  refine awl_hw (wt_none rfl) (aop_isnil T0 rfl rfl rfl rfl rfl ?_)
  intro bb hb
  cases bb
  · repeat (first | refine awp_seq ?_ | refine awp_region_lit rfl ?_ | refine awp_skip ?_ | with_reducible refine then_n ?_ | refine awp_cond_f rfl (by first | rfl | assumption | exact dF (by omega)) ?_ | refine awl_nil ?_)
    refine awl_hw (wt_none rfl) (st_bsl T0 rfl rfl rfl rfl rfl rcA rfl rfl rfl rfl (by simp only [List.map_cons, List.map_nil, cellsA]; rfl) ?_)
    intro g
    repeat (first | (show AWL _ _ _ (⟨_, .move _, _, _, _, _⟩ :: _) _ _ _; refine awl_pw (wt_none rfl) (pv_move rfl rfl) rfl rfl ?_))
    refine awl_hw (wt_none rfl) (st_appt T0 rfl rfl rfl rfl rfl rfl rfl rfl rfl rcA (by first | exact conOne _ | (intro k hk u hu; simp at hu; subst hu; rfl)) (rfl : ([] : List (List AV)).length = 0) (by first | omega | (simp; omega)) (fun _ _ => trivial) rfl ?_)
    intro a c p
    repeat (first | refine awp_ret ?_ | (show AWL _ _ _ (⟨_, .assign _, _, _, _, _⟩ :: _) _ _ _; refine awl_pw (wt_none rfl) (pv_assign rfl rfl) rfl rfl ?_) | refine awl_nil ?_)
    simp only [List.nil_append, List.length_nil, Nat.zero_add]
    have hrows : ((List.range l.length).map fun k => List.map AV.ofTr [Tr.sc (.int .i64 (l.getD k 0))]) = l.map intRow := by
      refine List.ext_getElem (by simp) fun k h1 h2 => ?_
      simp at h1 h2
      simp [List.getD_eq_getElem?_getD, h1, AV.ofTr, intRow]
    rw [hrows]
    exact body_r (h' := [.rw (.slice a l.length c) 3 1 (l.map intRow)]) (.cons rfl .nil) rcA ⟨a, c, rfl, rfl⟩
  · have hl0 : l = [] := by
      refine List.length_eq_zero_iff.1 ?_
      rcases Nat.eq_zero_or_pos l.length with e | e
      · exact e
      · have := hb e; cases this
    subst hl0
    repeat (first | refine awp_seq ?_ | refine awp_region_lit rfl ?_ | refine awp_ret ?_ | with_reducible refine then_n ?_ | with_reducible refine then_r ?_ | refine awp_cond_t rfl (by first | rfl | assumption | exact dT (by omega)) ?_ | (show AWL _ _ _ (⟨_, .assign _, _, _, _, _⟩ :: _) _ _ _; refine awl_pw (wt_none rfl) (pv_assign rfl rfl) rfl rfl ?_) | refine awl_nil ?_)
    refine bodyQ_ghost (ghost_nilrow 3 1) ?_
    exact body_r (h' := [.rw (.slice none 0 0) 3 1 []]) (.cons rfl .nil) rcA ⟨none, 0, rfl, rfl⟩
theorem smin_p (cp : Bool) (xs : List Int) (hl : xs.length ≤ 1000) (h0 : 0 < xs.length) : PCall Try.prog 168 [.t (intsT cp xs)] (fun r => r = intA (mnL xs (xs.length - 1))) := by
  refine acall_of_awp T0 Try.func168 rfl rfl rfl ?_
  repeat (first | refine awp_seq ?_ | refine awp_block ?_ | refine awp_region_lit rfl ?_ | refine awp_skip ?_ | with_reducible refine then_n ?_ | refine awp_cond_f rfl (by first | rfl | assumption | exact dF (by omega)) ?_ | (show AWL _ _ _ (⟨_, .move _, _, _, _, _⟩ :: _) _ _ _; refine awl_pw (wt_none rfl) (pv_move rfl rfl) rfl rfl ?_) | (show AWL _ _ _ (⟨_, .assign _, _, _, _, _⟩ :: _) _ _ _; refine awl_pw (wt_none rfl) (pv_assign rfl rfl) rfl rfl ?_) | (show AWL _ _ _ (⟨_, .load _ _, _, _, _, _⟩ :: _) _ _ _; refine awl_lw (wt_none rfl) (lv_elt_sc T0 rfl rfl rfl rfl) rfl rfl rfl ?_) | (show AWL _ _ _ (⟨_, .indexAddr _ _ _, _, _, _, _⟩ :: _) _ _ _; refine awl_pw (wt_none rfl) (pv_ix_t T0 rfl rfl rfl rfl (by omega) ixA) rfl rfl ?_) | (show AWL _ _ _ (⟨_, .binOp .lss _ _ _ _, _, _, _, _⟩ :: _) _ _ _; refine awl_pw (wt_none rfl) (pv_lss rfl rfl rfl) rfl rfl ?_) | (show AWL _ _ _ (⟨_, .call ⟨.builtin .len, _, _⟩, _, _, _, _⟩ :: _) _ _ _; refine awl_pw (wt_none rfl) (pv_len_t T0 rfl rfl rfl) rfl rfl ?_) | refine awl_nil ?_)
  refine awp_loop (fun m s h => ∃ (k : Nat), k + 1 ≤ xs.length ∧ m = xs.length - k ∧ s = [(0, .t (intsT cp xs)), (3, intA (mnL xs k)), (4, intA ((k + 1 : Nat) : Int))] ∧ h = []) ?_ ⟨0, h0, rfl, rfl, rfl⟩ ssA rcA
  rintro m s h ⟨k, hk, rfl, rfl, rfl⟩
  by_cases hlt : k + 1 < xs.length
  · repeat (first | refine awp_seq ?_ | refine awp_block ?_ | refine awp_region_lit rfl ?_ | refine awp_skip ?_ | with_reducible refine then_n ?_ | refine awp_cond_t rfl (by first | rfl | assumption | exact dT (by omega)) ?_ | (show AWL _ _ _ (⟨_, .move _, _, _, _, _⟩ :: _) _ _ _; refine awl_pw (wt_none rfl) (pv_move rfl rfl) rfl rfl ?_) | (show AWL _ _ _ (⟨_, .assign _, _, _, _, _⟩ :: _) _ _ _; refine awl_pw (wt_none rfl) (pv_assign rfl rfl) rfl rfl ?_) | (show AWL _ _ _ (⟨_, .load _ _, _, _, _, _⟩ :: _) _ _ _; refine awl_lw (wt_none rfl) (lv_elt_sc T0 rfl rfl rfl rfl) rfl rfl rfl ?_) | (show AWL _ _ _ (⟨_, .indexAddr _ _ _, _, _, _, _⟩ :: _) _ _ _; refine awl_pw (wt_none rfl) (pv_ix_t T0 rfl rfl rfl rfl (by omega) ixA) rfl rfl ?_) | (show AWL _ _ _ (⟨_, .binOp .add _ _ _ _, _, _, _, _⟩ :: _) _ _ _; refine awl_pw (wt_none rfl) (pv_add rfl rfl rfl (by first | assumption | exact wr64 (by omega))) rfl rfl ?_) | (show AWL _ _ _ (⟨_, .binOp .lss _ _ _ _, _, _, _, _⟩ :: _) _ _ _; refine awl_pw (wt_none rfl) (pv_lss rfl rfl rfl) rfl rfl ?_) | (show AWL _ _ _ (⟨_, .call ⟨.builtin .len, _, _⟩, _, _, _, _⟩ :: _) _ _ _; refine awl_pw (wt_none rfl) (pv_len_t T0 rfl rfl rfl) rfl rfl ?_) | (show AWL _ _ _ (⟨_, .call ⟨.builtin .min, _, _⟩, _, _, _, _⟩ :: _) _ _ _; refine awl_pw (wt_none rfl) (pv_min2 rfl rfl rfl) rfl rfl ?_) | refine awl_nil ?_)
    refine rnd_n _ _ _ ?_ ⟨k + 1, hlt, rfl, rfl, rfl⟩ ssA rcA
    omega
  have e : xs.length - 1 = k := by omega
  rw [e]
  repeat (first | refine awp_seq ?_ | refine awp_region_lit rfl ?_ | refine awp_exit ?_ | refine awp_ret ?_ | with_reducible refine then_n ?_ | refine awp_cond_f rfl (by first | rfl | assumption | exact dF (by omega)) ?_ | (show AWL _ _ _ (⟨_, .move _, _, _, _, _⟩ :: _) _ _ _; refine awl_pw (wt_none rfl) (pv_move rfl rfl) rfl rfl ?_) | (show AWL _ _ _ (⟨_, .assign _, _, _, _, _⟩ :: _) _ _ _; refine awl_pw (wt_none rfl) (pv_assign rfl rfl) rfl rfl ?_) | (show AWL _ _ _ (⟨_, .binOp .lss _ _ _ _, _, _, _, _⟩ :: _) _ _ _; refine awl_pw (wt_none rfl) (pv_lss rfl rfl rfl) rfl rfl ?_) | (show AWL _ _ _ (⟨_, .call ⟨.builtin .len, _, _⟩, _, _, _, _⟩ :: _) _ _ _; refine awl_pw (wt_none rfl) (pv_len_t T0 rfl rfl rfl) rfl rfl ?_) | refine awl_nil ?_)
  exact body_p (.cons rfl .nil) rfl
theorem min2_p (cp : Bool) (x y : Int) : PCall Try.prog 219 [.t (intsT cp [x, y])] (fun r => r = intA (min x y)) := by
  refine acall_of_awp T0 Try.func219 rfl rfl rfl ?_
  repeat (first | refine awp_seq ?_ | refine awp_region_lit rfl ?_ | (show AWL _ _ _ (⟨_, .move _, _, _, _, _⟩ :: _) _ _ _; refine awl_pw (wt_none rfl) (pv_move rfl rfl) rfl rfl ?_) | (show AWL _ _ _ (⟨_, .assign _, _, _, _, _⟩ :: _) _ _ _; refine awl_pw (wt_none rfl) (pv_assign rfl rfl) rfl rfl ?_) | refine awl_nil ?_)
  refine awl_hw (wt_none rfl) (st_call T0 (smin_p cp [x, y] (by simp) (by simp)) rfl rfl rfl rfl (by first | exact callee_lit | exact callee_v | exact callee_fn | assumption) rcA raA rfl ?_)
  rintro _ rfl
  repeat (first | refine awp_ret ?_ | (show AWL _ _ _ (⟨_, .assign _, _, _, _, _⟩ :: _) _ _ _; refine awl_pw (wt_none rfl) (pv_assign rfl rfl) rfl rfl ?_) | refine awl_nil ?_)
  exact body_p (.cons rfl .nil) rfl
theorem min2_o (g : Nat) (x y : Int) : ACall Try.prog 219 [.v (.slice (some ⟨g, 0, none⟩) 2 2)] [.rw (.slice (some ⟨g, 0, none⟩) 2 2) 3 1 [[intA x], [intA y]]] (fun r h' => r = intA (min x y) ∧ h' = []) :=
  acall_own (min2_p true x y) rfl (intRows_tree [x, y])
end Go.Proofs.Ytlpknbneilgjkaa.C
end
section
namespace Go.Proofs.Ytlpknbneilgjkaa.C
set_option linter.unusedVariables false
set_option linter.unusedSimpArgs false
abbrev never : Int := 1048576
def foldK (f g : Nat → Int) : Nat → Int
  | 0 => never
  | k + 1 => if f k = never then foldK f g k else min (foldK f g k) (f k + g k)
theorem foldK_min (f g : Nat → Int) : ∀ n k, k < n → f k ≠ never → foldK f g n ≤ f k + g k
  | 0, k, h, _ => absurd h (Nat.not_lt_zero _)
  | n + 1, k, h, hf => by
    simp only [foldK]
    by_cases e : k = n
    · subst e; rw [if_neg hf]; exact Int.min_le_right _ _
    · have := foldK_min f g n k (by omega) hf
      split <;> omega
theorem foldK_at (f g : Nat → Int) : ∀ n, foldK f g n = never ∨ ∃ k, k < n ∧ f k ≠ never ∧ foldK f g n = f k + g k
  | 0 => .inl rfl
  | n + 1 => by
    simp only [foldK]
    have ih := foldK_at f g n
    split
    · rename_i h
      exact ih.imp id (fun ⟨k, h1, h2, h3⟩ => ⟨k, by omega, h2, h3⟩)
    · rename_i h
      by_cases c : foldK f g n ≤ f n + g n
      · rw [Int.min_eq_left c]
        exact ih.imp id (fun ⟨k, h1, h2, h3⟩ => ⟨k, by omega, h2, h3⟩)
      · rw [Int.min_eq_right (by omega)]
        exact .inr ⟨n, by omega, h, rfl⟩
def leastL (of : HouD → Int → Int) (ow : Nat → Int) : List HouD → Nat → Int → Int
  | [], _, left => if left = 0 then 0 else never
  | h :: hs, s, left => foldK (fun k => leastL of ow hs (s + 1) (left - (h.lo + k))) (fun k => of h (ow s + (h.lo + k))) (min h.hi left - h.lo + 1).toNat
def fitP : List HouD → Int → List Int → Prop
  | [], left, [] => left = 0
  | h :: hs, left, x :: t => h.lo ≤ x ∧ x ≤ h.hi ∧ fitP hs (left - x) t
  | _, _, _ => False
def lackS (of : HouD → Int → Int) (ow : Nat → Int) : List HouD → Nat → List Int → Int
  | h :: hs, s, x :: t => of h (ow s + x) + lackS of ow hs (s + 1) t
  | _, _, _ => 0
structure LkOk (of : HouD → Int → Int) (ow : Nat → Int) : Prop where
  ow : ∀ s, -1600 ≤ ow s ∧ ow s ≤ 1600
  of : ∀ h p, -1600 ≤ p → p ≤ 1800 → -2000 ≤ of h p ∧ of h p ≤ 2000
def HsOk (hs : List HouD) : Prop := ∀ h ∈ hs, 0 ≤ h.lo ∧ h.lo ≤ h.hi ∧ h.hi ≤ 200
theorem fit_nn : ∀ {hs : List HouD} {left : Int} {t : List Int}, HsOk hs → fitP hs left t → 0 ≤ left
  | [], left, [], _, h => by simp only [fitP] at h; omega
  | h :: hs, left, x :: t, ho, hf => by
    simp only [fitP] at hf
    have h1 := fit_nn (fun y hy => ho y (List.mem_cons_of_mem _ hy)) hf.2.2
    have h2 := ho h List.mem_cons_self
    omega
  | [], _, _ :: _, _, h => h.elim
  | _ :: _, _, [], _, h => h.elim
theorem lack_bd {of : HouD → Int → Int} {ow : Nat → Int} (hk : LkOk of ow) : ∀ {hs : List HouD} {left : Int} {t : List Int} (s : Nat), HsOk hs → fitP hs left t → -2000 * (hs.length : Int) ≤ lackS of ow hs s t ∧ lackS of ow hs s t ≤ 2000 * (hs.length : Int)
  | [], left, [], _, _, h => by simp [lackS]
  | h :: hs, left, x :: t, s, ho, hf => by
    simp only [fitP] at hf
    have h1 := lack_bd hk (s + 1) (fun y hy => ho y (List.mem_cons_of_mem _ hy)) hf.2.2
    have h2 := ho h List.mem_cons_self
    have h3 := hk.ow s
    have h4 := hk.of h (ow s + x) (by omega) (by omega)
    simp only [lackS, List.length_cons]
    omega
  | [], _, _ :: _, _, _, h => h.elim
  | _ :: _, _, [], _, _, h => h.elim
theorem least_ok {of : HouD → Int → Int} {ow : Nat → Int} (hk : LkOk of ow) : ∀ (hs : List HouD) (s : Nat) (left : Int), HsOk hs → hs.length ≤ 6 →
    (∀ t, fitP hs left t → leastL of ow hs s left ≤ lackS of ow hs s t) ∧ (leastL of ow hs s left = never ∨ ∃ t, fitP hs left t ∧ lackS of ow hs s t = leastL of ow hs s left)
  | [], s, left, _, _ => by
    constructor
    · intro t ht
      cases t with
      | nil => simp only [fitP] at ht; simp [leastL, lackS, ht]
      | cons x t => exact ht.elim
    · by_cases c : left = 0
      · refine .inr ⟨[], c, ?_⟩
        simp [leastL, lackS, c]
      · left
        simp [leastL, c]
  | h :: hs, s, left, ho, hl => by
    have ho' : HsOk hs := fun y hy => ho y (List.mem_cons_of_mem _ hy)
    have hh := ho h List.mem_cons_self
    have hl' : hs.length ≤ 6 := by simp at hl; omega
    have ih := fun l => least_ok hk hs (s + 1) l ho' hl'
    simp only [leastL]
    generalize hf : (fun k : Nat => leastL of ow hs (s + 1) (left - (h.lo + k))) = f
    generalize hg : (fun k : Nat => of h (ow s + (h.lo + k))) = g
    have ef : ∀ k, f k = leastL of ow hs (s + 1) (left - (h.lo + k)) := fun k => by rw [← hf]
    have eg : ∀ k, g k = of h (ow s + (h.lo + k)) := fun k => by rw [← hg]
    constructor
    · intro t ht
      cases t with
      | nil => exact ht.elim
      | cons x t =>
        simp only [fitP] at ht
        have hnn := fit_nn ho' ht.2.2
        obtain ⟨k, hk1⟩ : ∃ k : Nat, x = h.lo + k := ⟨(x - h.lo).toNat, by omega⟩
        have h1 := (ih (left - (h.lo + k))).1 t (by rw [← hk1]; exact ht.2.2)
        have h2 := lack_bd hk (s + 1) ho' ht.2.2
        have hne : f k ≠ never := by rw [ef]; show _ ≠ (1048576 : Int); omega
        have h3 := foldK_min f g (min h.hi left - h.lo + 1).toNat k (by omega) hne
        rw [ef, eg] at h3
        simp only [lackS]
        rw [hk1]
        omega
    · rcases foldK_at f g (min h.hi left - h.lo + 1).toNat with h1 | ⟨k, h1, h2, h3⟩
      · exact .inl h1
      · right
        rcases (ih (left - (h.lo + k))).2 with h4 | ⟨t, h4, h5⟩
        · exact absurd ((ef k).trans h4) h2
        · refine ⟨(h.lo + k) :: t, ⟨by omega, by omega, h4⟩, ?_⟩
          rw [h3, ef, eg]
          simp only [lackS]
          omega
theorem least_bd {of : HouD → Int → Int} {ow : Nat → Int} (hk : LkOk of ow) (hs : List HouD) (s : Nat) (left : Int) (ho : HsOk hs) (hl : hs.length ≤ 6) : leastL of ow hs s left = never ∨ (-12000 ≤ leastL of ow hs s left ∧ leastL of ow hs s left ≤ 12000) := by
  rcases (least_ok hk hs s left ho hl).2 with h | ⟨t, h1, h2⟩
  · exact .inl h
  · have := lack_bd hk s ho h1
    right
    omega
theorem least_never {of : HouD → Int → Int} {ow : Nat → Int} (hk : LkOk of ow) (hs : List HouD) (s : Nat) (left : Int) (ho : HsOk hs) (hl : hs.length ≤ 6) : leastL of ow hs s left = never ↔ ∀ t, ¬ fitP hs left t := by
  have h := least_ok hk hs s left ho hl
  constructor
  · intro e t ht
    have h1 := h.1 t ht
    have h2 := lack_bd hk s ho ht
    rw [e] at h1
    have : (1048576 : Int) ≤ lackS of ow hs s t := h1
    omega
  · intro hn
    rcases h.2 with h | ⟨t, h1, _⟩
    · exact h
    · exact absurd h1 (hn t)
theorem fit_iff : ∀ {hs : List HouD} {left : Int} {t : List Int}, fitP hs left t ↔ t.length = hs.length ∧ (∀ k, k < hs.length → (hs.getD k default).lo ≤ t.getD k 0 ∧ t.getD k 0 ≤ (hs.getD k default).hi) ∧ t.sum = left
  | [], left, [] => by simp [fitP, eq_comm]
  | [], left, _ :: _ => by simp [fitP]
  | h :: hs, left, [] => by simp [fitP]
  | h :: hs, left, x :: t => by
    simp only [fitP]
    rw [fit_iff]
    constructor
    · rintro ⟨h1, h2, h3, h4, h5⟩
      refine ⟨by simp [h3], fun k hk => ?_, by simp; omega⟩
      cases k with
      | zero => exact ⟨by simpa using h1, by simpa using h2⟩
      | succ k => simpa using h4 k (by simpa using hk)
    · rintro ⟨h1, h2, h3⟩
      have h0 := h2 0 (by simp)
      refine ⟨by simpa using h0.1, by simpa using h0.2, by simpa using h1, fun k hk => ?_, by simp at h3; omega⟩
      simpa using h2 (k + 1) (by simpa using hk)
theorem sum_left (m : MktD) : ∀ (k : Nat) (t : List Int), k ≤ t.length → leftN m t k = m.ex - (t.take k).sum
  | 0, t, _ => by simp [leftN]
  | k + 1, t, h => by
    rw [leftN, sum_left m k t (by omega), List.take_add_one]
    have : t[k]?.toList = [t.getD k 0] := by
      rw [List.getElem?_eq_getElem (by omega)]
      simp [List.getD_eq_getElem?_getD, List.getElem?_eq_getElem (show k < t.length by omega)]
    rw [this, List.sum_append]
    simp
    omega
theorem truth_fit {m : MktD} {t : List Int} : truthB m t = true ↔ fitP m.hou m.ex t := by
  rw [truth_iff, fit_iff]
  constructor
  · rintro ⟨h1, h2, h3⟩
    rw [sum_left m _ t (by omega), ← h1, List.take_length] at h3
    exact ⟨h1, fun k hk => inB_iff.1 (h2 k hk), by omega⟩
  · rintro ⟨h1, h2, h3⟩
    refine ⟨h1, fun k hk => inB_iff.2 (h2 k hk), ?_⟩
    rw [sum_left m _ t (by omega), ← h1, List.take_length]
    omega
def shortF (h : HouD) (p : Int) : Int := needN p - spareN h p
def surF (h : HouD) (p : Int) : Int := spareN h p - needN p
theorem hs_ok {m : MktD} (hv : VMkt m) : HsOk m.hou := fun h hh => by
  obtain ⟨k, hk, rfl⟩ := List.mem_iff_getElem.1 hh
  have := hv.held k hk
  rw [List.getD_eq_getElem?_getD, List.getElem?_eq_getElem hk] at this
  exact this
theorem short_ok {m : MktD} (hv : VMkt m) : LkOk shortF (owedN m) := ⟨fun s => owed_bd hv s, fun h p h1 h2 => by unfold shortF needN spareN; split <;> omega⟩
theorem sur_ok {m : MktD} (hv : VMkt m) : LkOk surF (owedN m) := ⟨fun s => owed_bd hv s, fun h p h1 h2 => by unfold surF needN spareN; split <;> omega⟩
theorem lack_neg (ow : Nat → Int) : ∀ (hs : List HouD) (s : Nat) (t : List Int), lackS surF ow hs s t = - lackS shortF ow hs s t
  | [], _, t => by cases t <;> simp [lackS]
  | _ :: _, _, [] => by simp [lackS]
  | h :: hs, s, x :: t => by
    simp only [lackS]
    rw [lack_neg ow hs (s + 1) t]
    unfold surF shortF
    omega
abbrev shortT (m : MktD) (t : List Int) : Int := lackS shortF (owedN m) m.hou 0 t
abbrev lowN (m : MktD) : Int := leastL shortF (owedN m) m.hou 0 m.ex
abbrev highN (m : MktD) : Int := - leastL surF (owedN m) m.hou 0 m.ex
theorem low_never {m : MktD} (hv : VMkt m) : lowN m = never ↔ ∀ t, truthB m t = false := by
  rw [show lowN m = leastL shortF (owedN m) m.hou 0 m.ex from rfl, least_never (short_ok hv) m.hou 0 m.ex (hs_ok hv) hv.len]
  constructor
  · intro h t
    cases c : truthB m t
    · rfl
    · exact absurd (truth_fit.1 c) (h t)
  · intro h t ht
    have := h t
    rw [truth_fit.2 ht] at this
    cases this
theorem low_at {m : MktD} (hv : VMkt m) (h : lowN m ≠ never) : ∃ t, truthB m t = true ∧ shortT m t = lowN m := by
  rcases (least_ok (short_ok hv) m.hou 0 m.ex (hs_ok hv) hv.len).2 with h1 | ⟨t, h1, h2⟩
  · exact absurd h1 h
  · exact ⟨t, truth_fit.2 h1, h2⟩
theorem high_at {m : MktD} (hv : VMkt m) (h : lowN m ≠ never) : ∃ t, truthB m t = true ∧ shortT m t = highN m := by
  obtain ⟨t0, h0, _⟩ := low_at hv h
  rcases (least_ok (sur_ok hv) m.hou 0 m.ex (hs_ok hv) hv.len).2 with h1 | ⟨t, h1, h2⟩
  · have := (least_never (sur_ok hv) m.hou 0 m.ex (hs_ok hv) hv.len).1 h1 t0 (truth_fit.1 h0)
    exact this.elim
  · refine ⟨t, truth_fit.2 h1, ?_⟩
    rw [lack_neg] at h2
    show lackS shortF (owedN m) m.hou 0 t = - leastL surF (owedN m) m.hou 0 m.ex
    omega
end Go.Proofs.Ytlpknbneilgjkaa.C
end
end
section
namespace Go.Tl
open Go Go.RowKit
set_option linter.unusedVariables false
set_option linter.unusedSimpArgs false
def findG {κ : Type} [DecidableEq κ] (k : κ) : List κ → List MapEntry → Nat → Option (Nat × Value)
  | k' :: ks, e :: es, i => if k = k' then some (i, e.val) else findG k ks es (i + 1)
  | _, _, _ => none
inductive KRel {κ : Type} (kv : κ → Value) : List κ → List MapEntry → Prop where
  | nil : KRel kv [] []
  | cons {k : κ} {e : MapEntry} {ks : List κ} {es : List MapEntry} (hk : e.key = kv k) (h : KRel kv ks es) : KRel kv (k :: ks) (e :: es)
structure MG (P : Program) (mt : TypeId) (κ : Type) [DecidableEq κ] where
  kt : TypeId
  vt : TypeId
  z : Value
  zA : AV
  kv : κ → Value
  ka : κ → AV
  hm : P.underlying mt = some (.map kt vt)
  inv : ∀ w S k v, VRel w S (ka k) v → v = kv k
  hz : ∀ w, (zeroValue vt).run P w = .ok z w
  hzA : ∀ w S, VRel w S zA z
  chk : ∀ e k w, (Instr.checkKey e 10000 kt (kv k)).run P w = .ok () w
  bits : ∀ k, Instr.sameBits 10000 (kv k) (kv k) = true
  find : ∀ k ks es w, KRel kv ks es → (Instr.findKey kt (kv k) es).run P w = .ok (findG k ks es 0) w
section
variable {κ : Type} [DecidableEq κ]
def lookG : List (κ × AV) → κ → Option AV
  | [], _ => none
  | (k, y) :: r, ks => if ks = k then some y else lookG r ks
def updG : List (κ × AV) → κ → AV → List (κ × AV)
  | [], ks, x => [(ks, x)]
  | (k, y) :: r, ks, x => if ks = k then (k, x) :: r else (k, y) :: updG r ks x
inductive GRel (w : World) (S : Nat → Prop) (kv : κ → Value) : List (κ × AV) → List MapEntry → Prop where
  | nil : GRel w S kv [] []
  | cons {k : κ} {y : AV} {e : MapEntry} {r : List (κ × AV)} {es : List MapEntry} (hk : e.key = kv k) (hv : VRel w S y e.val) (h : GRel w S kv r es) : GRel w S kv ((k, y) :: r) (e :: es)
omit [DecidableEq κ] in
theorem GRel.mono {w w' : World} {S S' : Nat → Prop} {kv : κ → Value} {l : List (κ × AV)} {es : List MapEntry} (h : GRel w S kv l es) (hS : ∀ b, S b → S' b) (hw : ∀ b, S b → w'.heap[b]? = w.heap[b]?) : GRel w' S' kv l es := by
  induction h with
  | nil => exact .nil
  | cons hk hv _ ih => exact .cons hk (hv.mono hS hw) ih
omit [DecidableEq κ] in
theorem GRel.keys {w : World} {S : Nat → Prop} {kv : κ → Value} {l : List (κ × AV)} {es : List MapEntry} (h : GRel w S kv l es) : KRel kv (l.map (·.1)) es := by
  induction h with
  | nil => exact .nil
  | cons hk _ _ ih => exact .cons hk ih
omit [DecidableEq κ] in
theorem GRel.push {w : World} {S : Nat → Prop} {kv : κ → Value} {l : List (κ × AV)} {es : List MapEntry} (h : GRel w S kv l es) {ks : κ} {y : AV} {e : MapEntry} (hk : e.key = kv ks) (hv : VRel w S y e.val) : GRel w S kv (l ++ [(ks, y)]) (es ++ [e]) := by
  induction h with
  | nil => exact .cons hk hv .nil
  | cons b c _ ih => exact .cons b c ih
def mapGO (kv : κ → Value) (g : Nat) (l : List (κ × AV)) : Ob where
  fp := fun b => b = g
  Φ := fun w S => ∃ es clock, w.heap[g]? = some (.map es clock) ∧ GRel w S kv l es.toList
  lt := fun ⟨es, c, h, _⟩ b hb => by rw [hb]; exact (Array.getElem?_eq_some_iff.1 h).1
  keep := fun ⟨es, c, h, hr⟩ _ _ _ _ hS hw hg => ⟨es, c, (hg g rfl).trans h, hr.mono hS hw⟩
abbrev mapG (kv : κ → Value) (g : Nat) (l : List (κ × AV)) : Ent := .ob (mapGO kv g l)
theorem findsG {w : World} {S : Nat → Prop} {kv : κ → Value} {l : List (κ × AV)} {es : List MapEntry} (h : GRel w S kv l es) (k : κ) : ∀ j,
    (lookG l k = none ∧ (∀ y, updG l k y = l ++ [(k, y)]) ∧ findG k (l.map (·.1)) es j = none) ∨
    (∃ i e y, lookG l k = some y ∧ es[i]? = some e ∧ e.key = kv k ∧ VRel w S y e.val ∧ findG k (l.map (·.1)) es j = some (j + i, e.val) ∧
      ∀ x v, VRel w S x v → ∀ e', e'.key = kv k → e'.val = v → GRel w S kv (updG l k x) (es.set i e')) := by
  induction h with
  | nil => exact fun j => .inl ⟨rfl, fun _ => rfl, rfl⟩
  | @cons k' y e r es hk hv hr ih =>
    intro j
    by_cases hh : k = k'
    · subst hh
      refine .inr ⟨0, e, y, by simp [lookG], rfl, hk, hv, by simp [findG], fun x v hx e' h1 h2 => ?_⟩
      simp only [updG, if_true, List.set_cons_zero]
      exact .cons h1 (h2 ▸ hx) hr
    · rcases ih (j + 1) with ⟨h1, h2, h3⟩ | ⟨i, e1, y1, h1, h2, h3, h4, h5, h6⟩
      · exact .inl ⟨by simp [lookG, hh, h1], fun x => by simp [updG, hh, h2], by simp [findG, hh, h3]⟩
      · refine .inr ⟨i + 1, e1, y1, by simp [lookG, hh, h1], by simpa using h2, h3, h4, ?_, fun x v hx e' h7 h8 => ?_⟩
        · have e4 : j + (i + 1) = j + 1 + i := by omega
          rw [e4]
          simp [findG, hh, h5]
        · simp only [updG, hh, if_false, List.set_cons_succ]
          exact .cons hk hv (h6 x v hx e' h7 h8)
variable {P : Program} {mt : TypeId} {N : Nat} {o : Oper} {md : Nat → Prop} {s : Slots} {h : List Ent} {K : Slots → List Ent → Prop}
omit [DecidableEq κ] in
theorem aop_makeMapG (kv : κ → Value) {d : Nat} (ho : o.op = .makeMap mt none) (hd : o.dst = some d) (hN : Nat.blt d N = true) (hK : ∀ g, K ((d, .v (.map (some g))) :: s) (mapG kv g [] :: h)) : AOp P N o md s h K := fun B w S a hs Kr Qr hk => by
  have hrun : (execOp a.eval o).run P w = .ok (.value (.map (some w.heap.size))) (w.alloc (.map #[] 0)) := by
    simp [execOp, ho, Instr.makeMap]
  unfold wpX
  rw [hd] at hk
  rw [hrun, Oper.uponIn_value, hd]
  have hold := fun b hb => alloc_old w (.map #[] 0) b hb
  refine hk _ _ S _ _ (hK w.heap.size) ((hs.push (w' := w.alloc (.map #[] 0)) (grw_alloc _ _) (e := mapG kv w.heap.size []) ⟨#[], 0, by rw [heap_alloc_new], .nil⟩ (fun g hg => by have : g = w.heap.size := hg; omega)).put (.v _) (blt_lt hN)) (upd_push (by simp) hold)
theorem aop_mapUpdateG (M : MG P mt κ) {m kx x : Operand} {g : Nat} {k : κ} {kA : AV} {y : AV} {l l' : List (κ × AV)} {h' : List Ent} (ho : o.op = .mapUpdate mt m kx x) (hm : evA s m = some (.v (.map (some g)))) (hk : evA s kx = some kA) (hka : M.ka k = kA) (hx : evA s x = some y) (hd : o.dst = none)
    (hp : Repl h (mapG M.kv g l) (mapG M.kv g l') h') (hl : updG l k y = l') (hmd : md g) (hK : K s h') : AOp P N o md s h K := fun B w S a hs Kr Qr hk0 => by
  subst hl hka
  have hmem : mapG M.kv g l ∈ h := by obtain ⟨p, q, rfl, _⟩ := hp.split; simp
  obtain ⟨es, clock, hg, hr⟩ := hs.heap.ent _ hmem
  have hkv := M.inv _ _ _ _ (hs.slots.eval hk)
  have hf := fun w => M.find k _ _ w hr.keys
  have hxv := hs.slots.eval hx
  generalize hev : a.eval x = v at *
  have hlt : g < w.heap.size := (Array.getElem?_eq_some_iff.1 hg).1
  have hc := fun e w => M.chk e k w
  have hbk := M.bits k
  have fin : ∀ ob : Obj, (∃ es' c', ob = .map es' c' ∧ GRel w S M.kv (updG l k y) es'.toList) → Sim B N (w.putObj g ob) S s h' a ∧ Upd w S (w.putObj g ob) S md := by
    rintro ob ⟨es', c', rfl, hr'⟩
    have hoth : ∀ b, b ≠ g → (w.putObj g (.map es' c')).heap[b]? = w.heap[b]? := fun b hb => World.putObj_heap_other hb
    have hgrw : Grw w (w.putObj g (.map es' c')) (mapG M.kv g l).blk := ⟨rfl, rfl, rfl, by simp, fun b hb hn => hoth b (fun e => hn e)⟩
    exact ⟨hs.repl hp hgrw ⟨es', c', World.putObj_heap_same hlt, hr'.mono (fun _ h => h) (fun b hb => hoth b (fun e => hs.heap.off _ hmem g rfl (e ▸ hb)))⟩ (fun g' hg' => .inl hg'), ⟨by simp, fun b hb hn => hoth b (fun e => hn (e ▸ hmd)), fun _ h => h⟩⟩
  unfold wpX
  rw [hd] at hk0
  rcases findsG hr k 0 with ⟨h1, h2, h3⟩ | ⟨i, e, y1, h1, h2, h3, h4, h5, h6⟩
  · have hrun : (execOp a.eval o).run P w = .ok .skip (w.putObj g (.map (es.push { key := M.kv k, val := v, born := clock }) (clock + 1))) := by
      simp [execOp, ho, hs.slots.lit hm, hkv, hev, Instr.mapUpdate, run_underlying M.hm, MapKept.run_getObj_map hg, hc, hf, h3, MapKept.run_setObj_map _ hg, Result.andThen, World.putObj]
    rw [hrun, Oper.uponIn_skip, hd]
    obtain ⟨f1, f2⟩ := fin (.map (es.push { key := M.kv k, val := v, born := clock }) (clock + 1)) ⟨_, _, rfl, by rw [h2, Array.toList_push]; exact hr.push rfl hxv⟩
    exact hk0 _ _ S _ _ hK f1.putNone f2
  · have hi' : es[i]? = some e := by simpa using h2
    rw [Nat.zero_add] at h5
    have hrun : (execOp a.eval o).run P w = .ok .skip (w.putObj g (.map (es.modify i fun e => { e with key := M.kv k, val := v }) clock)) := by
      simp [execOp, ho, hs.slots.lit hm, hkv, hev, Instr.mapUpdate, run_underlying M.hm, MapKept.run_getObj_map hg, hc, hf, h5, hi', h3, Instr.keyThatStays, hbk, MapKept.run_setObj_map _ hg, Result.andThen, World.putObj]
    rw [hrun, Oper.uponIn_skip, hd]
    have hmod : (es.modify i fun e => { e with key := M.kv k, val := v }).toList = es.toList.set i { e with key := M.kv k, val := v } := by
      rw [Array.toList_modify]
      apply List.ext_getElem?
      intro j
      rw [List.getElem?_modify, List.getElem?_set]
      by_cases hj : i = j
      · subst hj
        have : i < es.toList.length := (List.getElem?_eq_some_iff.1 h2).1
        rw [h2]
        simp [show i < es.size by simpa using this]
      · simp [hj]
    obtain ⟨f1, f2⟩ := fin (.map (es.modify i fun e => { e with key := M.kv k, val := v }) clock) ⟨_, _, rfl, by rw [hmod]; exact h6 y v hxv _ rfl rfl⟩
    exact hk0 _ _ S _ _ hK f1.putNone f2
theorem lv_lookupO (M : MG P mt κ) {m x : Operand} {g : Nat} {k : κ} {kA : AV} {l : List (κ × AV)} {y : AV} {b : Bool} (ho : o.op = .lookup mt m x true) (hm : evA s m = some (.v (.map (some g)))) (hk : evA s x = some kA) (hka : M.ka k = kA) (hmem : Mem1 (mapG M.kv g l) h)
    (hy : (lookG l k).getD M.zA = y) (hb : (lookG l k).isSome = b) : LV P o s h (some (mapG M.kv g l)) (.tup [y, .v (.bool b)]) := fun w S a hs hh => by
  subst hy hka hb
  obtain ⟨es, clock, hg, hr⟩ := hh.ent _ hmem.mem
  have hkv := M.inv _ _ _ _ (hs.eval hk)
  have hf := fun w => M.find k _ _ w hr.keys
  have tup : ∀ (b : Bool) (x : AV) (v : Value), VRel w S x v → VRel w S (.tup [x, .v (.bool b)]) (.tuple #[v, .bool b]) := fun b x v hv => by
    have := VRels.cons hv (VRels.cons (VRel.v (w := w) (S := S) (.bool b)) VRels.nil)
    exact .tup (vs := [v, .bool b]) this.1 this.2
  rcases findsG hr k 0 with ⟨h1, _, h3⟩ | ⟨i, e, y1, h1, h2, h3, h4, h5, _⟩
  · refine ⟨.tuple #[M.z, .bool false], g, fun w' hw' => ?_, ?_, .inr ⟨_, rfl, hmem.mem, rfl⟩⟩
    · rw [hg] at hw'
      have hc := fun e w => M.chk e k w
      simp [execOp, ho, hs.lit hm, hkv, Instr.lookup, run_underlying M.hm, MapKept.run_getObj_map hw', hc, hf, h3, M.hz, Result.andThen]
    · rw [h1]
      exact tup _ _ _ (M.hzA w S)
  · refine ⟨.tuple #[e.val, .bool true], g, fun w' hw' => ?_, ?_, .inr ⟨_, rfl, hmem.mem, rfl⟩⟩
    · rw [hg] at hw'
      have hc := fun e w => M.chk e k w
      simp [execOp, ho, hs.lit hm, hkv, Instr.lookup, run_underlying M.hm, MapKept.run_getObj_map hw', hc, hf, h5, Result.andThen]
    · rw [h1]
      exact tup _ _ _ h4
theorem look_updG (y : AV) (k q : κ) : ∀ l : List (κ × AV), lookG (updG l k y) q = if q = k then some y else lookG l q
  | [] => by
    simp only [updG, lookG]
  | (k', y') :: r => by
    simp only [updG]
    by_cases h : k = k'
    · subst h
      rw [if_pos rfl]
      simp only [lookG]
      split <;> rfl
    · rw [if_neg h]
      simp only [lookG]
      have ih := look_updG y k q r
      by_cases h2 : q = k'
      · subst h2
        rw [if_pos rfl, if_pos rfl, if_neg (fun e => h e.symm)]
      · rw [if_neg h2, if_neg h2, ih]
end
end Go.Tl
namespace Go.Proofs.Ytlpknbneilgjkaa.C
open Go Go.RowKit Go.Tl
set_option linter.unusedVariables false
set_option linter.unusedSimpArgs false
set_option maxRecDepth 100000
def spV (k : Int × Int) : Value := .agg #[.int .i64 k.1, .int .i64 k.2]
theorem spkey_ok (e : Bool) (a b : Int) (w : World) : (Instr.checkKey e 10000 318 (.agg #[.int .i64 a, .int .i64 b])).run Try.prog w = .ok () w := by kernel_rfl
theorem eq_spot (a c b d : Int) (w : World) : (Op.equal 318 (.agg #[.int .i64 a, .int .i64 b]) (.agg #[.int .i64 c, .int .i64 d])).run Try.prog w = .ok (a == c && b == d) w := by
  have h1 : Try.prog.stoodInHeld 318 = false := by kernel_rfl
  have h2 : Try.prog.underlying 318 = some (.struct (Try.prog.fieldsOf 318)) := by kernel_rfl
  have hfo : (Try.prog.fieldsOf 318).toList = (match Try.prog.underlying 318 with | some (.struct fs) => fs.toList | _ => []) := by kernel_rfl
  unfold Op.equal Op.maxDepth
  rw [run_equalIn_struct w 9999 318 _ _ h2 h1, hfo, Try.underlying318]
  have p1 : ∀ (x y : Value) (w : World), (part 3 #[x, y] 0).run Try.prog w = .ok x w := fun x y w => by kernel_rfl
  have p2 : ∀ (x y : Value) (w : World), (part 3 #[x, y] 1).run Try.prog w = .ok y w := fun x y w => by kernel_rfl
  have q : ∀ (a b : Int) (w : World), (Op.equalIn 9999 3 (.int .i64 a) (.int .i64 b)).run Try.prog w = .ok (a == b) w := fun a b w => run_equalIn_int w 9998 3 .i64 .i64 a b Try.underlying3
  cases h1 : (a == c) <;> cases h2 : (b == d) <;> simp [Op.eqFields, p1, p2, q, h1, h2]
theorem ask_s (k : Int × Int) : ∀ (ks : List (Int × Int)) (es : List MapEntry) (j : Nat) (w : World), KRel spV ks es → (Instr.findAsking 318 (spV k) es j).run Try.prog w = .ok (findG k ks es j) w
  | _, _, j, w, .nil => by simp [Instr.findAsking, findG]
  | k' :: ks, e :: es, j, w, .cons hk h => by
    have ih := ask_s k ks es (j + 1) w h
    have he : ∀ w, (Op.equal 318 (spV k) e.key).run Try.prog w = .ok (decide (k = k')) w := fun w => by
      rw [hk]
      have := eq_spot k.1 k'.1 k.2 k'.2 w
      show (Op.equal 318 (.agg #[.int .i64 k.1, .int .i64 k.2]) (.agg #[.int .i64 k'.1, .int .i64 k'.2])).run Try.prog w = _
      rw [this]
      obtain ⟨a, b⟩ := k
      obtain ⟨c, d⟩ := k'
      by_cases e1 : a = c
      · subst e1
        by_cases e2 : b = d
        · subst e2; simp
        · simp [e2]
      · have : ((a : Int) == (c : Int)) = false := beq_false_of_ne e1
        simp [this, e1]
    by_cases c : k = k'
    · subst c; simp [Instr.findAsking, he, findG]
    · simp [Instr.findAsking, he, findG, c, ih]
noncomputable def Msp : MG Try.prog 326 (Int × Int) where
  kt := 318
  vt := 3
  z := .int .i64 0
  zA := intA 0
  kv := spV
  ka := fun k => .ag [intA k.1, intA k.2]
  hm := by kernel_rfl
  inv := fun w S k v h => by
    obtain ⟨vs, rfl, hv⟩ := ag_inv h
    obtain ⟨v1, us, rfl, k1, hv⟩ := rels1 hv
    obtain ⟨v2, us, rfl, k2, hv⟩ := rels1 hv
    obtain rfl := rels0 hv
    rw [k1.lit_inv, k2.lit_inv]
    rfl
  hz := fun w => by kernel_rfl
  hzA := fun w S => .v _
  chk := fun e k w => spkey_ok e k.1 k.2 w
  bits := fun k => by
    obtain ⟨a, b⟩ := k
    simp [spV, Instr.sameBits]
  find := fun k ks es w h => by
    have h2 : Try.prog.underlying 318 = some (.struct (Try.prog.fieldsOf 318)) := by kernel_rfl
    cases h with
    | nil => simp [Instr.findKey, run_underlying h2, Instr.findNow, findG]
    | @cons k' e ks es hk h =>
      have hn : Instr.findNow (.struct (Try.prog.fieldsOf 318)) (spV k) (e :: es) 0 = none := by simp [Instr.findNow, Instr.sameNow]
      have := ask_s k _ _ 0 w (.cons hk h)
      simp [Instr.findKey, run_underlying h2, hn, this]
end Go.Proofs.Ytlpknbneilgjkaa.C
end
