/- Operations, lists of them, and regions that draw their order, in an activation or in a round of a loop over a function: one form for both. No program in sight. -/
import Derived.Test.YtilhflfbbfeakaaPlan2
import Derived.OrdersIn
import Derived.OwnWalkIn
import Derived.LoopNIn
import Derived.RangeFuncLeaves
import Derived.RangeFuncRecord
namespace Go.Tl
open Go Go.RowKit
open Go.Proofs.Ytilhflfbbfeakaa (PT ptOk treeB kindOf isPre Closed isPre_listed getD_tf)
set_option linter.unusedVariables false

/-- everything is let in; ro: the loop whose round it is -/
abbrev FR (ro : Option Nat) : Fence := { Fence.wide with round := ro }

/-- an operation that is no 'defer' -/
def ndO (o : Oper) : Bool := match o.op with | .defer _ => false | _ => true
theorem ndO_op {o : Oper} (h : ndO o = true) : ∀ c, o.op ≠ .defer c := fun c e => by simp [ndO, e] at h

section
variable {P : Program} {ops : Array Oper} {Q : Exit → Act → World → Prop} {ro : Option Nat}

def wpX (P : Program) (o : Oper) (a : Act) (w : World) (K : Act → World → Prop) (Q : Exit → Act → World → Prop) : Prop := o.uponIn (FR none) 0 P a K Q ((execOp a.eval o).run P w)

theorem wpX.wpIn {o : Oper} {a : Act} {w : World} {K : Act → World → Prop} (hn : ndO o = true) (h : wpX P o a w K Q) : o.wpIn (FR ro) 0 P a w K Q := by
  refine ⟨fun _ _ => trivial, ?_⟩
  rw [Oper.semAt_eq _ _ _ (ndO_op hn)]
  unfold wpX at h
  generalize (execOp a.eval o).run P w = r at *
  cases r with
  | ok x w' => cases x <;> first | exact h | (simp only [Oper.uponIn] at h ⊢; exact h)
  | halt x w' => cases x <;> first | exact h | (simp only [Oper.uponIn] at h ⊢; exact h)
theorem wpX_mono {o : Oper} {a : Act} {w : World} {K K' : Act → World → Prop} (h : ∀ a w, K a w → K' a w) (hh : wpX P o a w K Q) : wpX P o a w K' Q := by
  unfold wpX at *
  generalize (execOp a.eval o).run P w = r at *
  cases r with
  | ok x w' =>
    cases x <;> simp only [Oper.uponIn] at hh ⊢ <;>
      first
        | exact h _ _ hh
        | exact ⟨hh.1, CallsIn.mono hh.2 (fun e w'' he => by cases e <;> first | exact h _ _ he | exact he)⟩
        | exact ⟨hh.1, RowsIn.mono hh.2 (fun _ _ he => h _ _ he)⟩
        | exact ⟨hh.1, RoundIn.mono hh.2 (fun e w'' he => by cases e <;> first | exact h _ _ he | exact he)⟩
        | exact hh
  | halt x w' => cases x <;> simp only [Oper.uponIn] at hh ⊢ <;> exact hh

/-! lists -/
def wpLX (P : Program) (ops : Array Oper) (Q : Exit → Act → World → Prop) : List Oper → Act → World → Prop
  | [], a, w => Q .normal a w
  | o :: rest, a, w => if Region.wanted o (yielded ops a.tmps) = true then wpX P o a w (wpLX P ops Q rest) Q else wpLX P ops Q rest (a.put o.dst undef) w
theorem wpLX.listIn : ∀ (l : List Oper) (a : Act) (w : World), l.all ndO = true → wpLX P ops Q l a w → wpListIn (FR ro) 0 P ops Q l a w
  | [], a, w, _, h => h
  | o :: rest, a, w, hn, h => by
    simp only [List.all_cons, Bool.and_eq_true] at hn
    simp only [wpLX] at h
    simp only [wpListIn]
    split
    · rename_i hw
      rw [if_pos hw] at h
      exact Oper.wpIn_mono (fun a w h => wpLX.listIn rest a w hn.2 h) (h.wpIn hn.1)
    · rename_i hw
      rw [if_neg hw] at h
      exact ⟨fun _ _ => trivial, wpLX.listIn rest _ w hn.2 h⟩
theorem wpIn_regionX {id : Nat} {a : Act} {w : World} (hn : ops.toList.all ndO = true) (h : wpLX P ops Q ops.toList a w) : (Code.region id ops false).wpIn (FR ro) 0 P Q a w := wpIn_region_list (wpLX.listIn _ _ _ hn h)

/-! orders that are drawn -/
def wpOX (P : Program) (ops : Array Oper) (Q : Exit → Act → World → Prop) (i : Nat) (K : Act → World → Prop) (a : Act) (w : World) : Prop :=
  ∃ o, ops[i]? = some o ∧ if Region.wanted o (yielded ops a.tmps) = true then wpX P o a w K Q else K (a.put o.dst undef) w
theorem wpOX_mono {i : Nat} {a : Act} {w : World} {K K' : Act → World → Prop} (h : ∀ a w, K a w → K' a w) (hh : wpOX P ops Q i K a w) : wpOX P ops Q i K' a w := by
  obtain ⟨o, ho, hh⟩ := hh
  refine ⟨o, ho, ?_⟩
  split
  · rename_i hw; rw [if_pos hw] at hh; exact wpX_mono h hh
  · rename_i hw; rw [if_neg hw] at hh; exact h _ _ hh
theorem wpOX.wpOpIn {i : Nat} {a : Act} {w : World} {K : Act → World → Prop} (hn : ops.toList.all ndO = true) (hh : wpOX P ops Q i K a w) : Go.wpOpIn (FR ro) 0 P ops Q i K a w := by
  obtain ⟨o, ho, hh⟩ := hh
  have hmem : o ∈ ops.toList := by simpa using Array.mem_of_getElem? ho
  unfold Go.wpOpIn
  simp only [ho]
  split
  · rename_i hw; rw [if_pos hw] at hh; exact hh.wpIn (List.all_eq_true.1 hn o hmem)
  · rename_i hw; rw [if_neg hw] at hh; exact ⟨fun _ _ => trivial, hh⟩
/-- whatever order is picked: what keeps S keeps S -/
def wpAX (P : Program) (md : Region.Mode) (ops : Array Oper) (Q : Exit → Act → World → Prop) (S : World → Prop) (ks : Nat → Bool) : Nat → Array Bool → Act → World → Prop
  | 0, listed, a, w => Region.ready md ops listed = [] ∧ Q .normal a w
  | fuel + 1, listed, a, w =>
    (Region.ready md ops listed = [] → Q .normal a w) ∧
    ∀ i ∈ Region.ready md ops listed, wpOX P ops Q i (fun a' w' => (ks i = true → S w → S w') ∧ wpAX P md ops Q S ks fuel (listed.setIfInBounds i true) a' w') a w
variable {md : Region.Mode} {S : World → Prop}
theorem wpAX.anyIn {ks : Nat → Bool} (hn : ops.toList.all ndO = true) : ∀ (fuel : Nat) (listed : Array Bool) (a : Act) (w : World), wpAX P md ops Q S ks fuel listed a w → wpAnyIn (FR ro) 0 P md ops Q fuel listed a w
  | 0, _, _, _, h => h
  | fuel + 1, _, _, _, h => ⟨h.1, fun i hi => (wpOX_mono (fun a' w' h' => wpAX.anyIn hn fuel _ a' w' h'.2) (h.2 i hi)).wpOpIn hn⟩
theorem YieldsIf.ox {i : Nat} {o : Oper} {v : Value} {a : Act} (hi : ops[i]? = some o) (hy : YieldsIf P ops S o v a) {K : Act → World → Prop} {w : World} (hS : S w) (h : K (a.put o.dst v) w) : wpOX P ops Q i K a w := by
  refine ⟨o, hi, ?_⟩
  rcases hy with ⟨hw, hv⟩ | ⟨hw, rfl⟩
  · rw [if_pos hw]
    unfold wpX
    rw [hv w hS, Oper.uponIn_value]
    exact h
  · rw [if_neg (by rw [hw]; simp)]
    exact h
/-- what only looks, and what stands apart from it: whichever comes first -/
theorem ox_put {j : Nat} {oi oj : Oper} {v : Value} (hj : ops[j]? = some oj) (hap : oi.apart ops oj = true) (hsi : ∀ cs b, oi.op ≠ .select cs b) (hsj : ∀ cs b, oj.op ≠ .select cs b)
    (hQ : ∀ c a w, Q (.panic c) (a.put oi.dst v) w → Q (.panic c) a w) {K : Act → World → Prop} {a : Act} {w : World} (hy : YieldsIf P ops S oi v a) (h : wpOX P ops Q j K (a.put oi.dst v) w) :
    wpOX P ops Q j (fun a' w' => YieldsIf P ops S oi v a' ∧ K (a'.put oi.dst v) w') a w := by
  obtain ⟨h1, h2, h3⟩ := Oper.apart_spec hap
  obtain ⟨o, ho, h⟩ := h
  obtain rfl : o = oj := Option.some.inj (ho.symm.trans hj)
  have still : ∀ (b : Act), YieldsIf P ops S oi v b → ∀ u, YieldsIf P ops S oi v (b.put o.dst u) := fun b hb u => hb.of_same (execOp_put oi hsi b o.dst u h3) (wanted_put oi b o.dst u h3)
  have swap : ∀ (b : Act) (u : Value) (w' : World), YieldsIf P ops S oi v b → K ((b.put oi.dst v).put o.dst u) w' → YieldsIf P ops S oi v (b.put o.dst u) ∧ K ((b.put o.dst u).put oi.dst v) w' := fun b u w' hb hk => ⟨still b hb u, by rw [← Act.put_comm b v u h2]; exact hk⟩
  refine ⟨o, hj, ?_⟩
  rw [wanted_put o a oi.dst v h1] at h
  split
  · rename_i hw
    rw [if_pos hw] at h
    unfold wpX at *
    rw [execOp_put o hsj a oi.dst v h1] at h
    generalize (execOp a.eval o).run P w = r at *
    cases r with
    | ok x w' =>
      cases x <;> simp only [Oper.uponIn] at h ⊢
      case value u => exact swap a u _ hy h
      case skip => exact swap a undef _ hy h
      case defer d =>
        have := swap { a with defers := d :: a.defers } undef w' (hy.of_same rfl rfl) (by rw [← Act.put_defers]; exact h)
        exact this
      case enter f args => exact ⟨h.1, CallsIn.mono h.2 (fun e w'' he => by
        cases e with
        | returned u => exact swap a u _ hy he
        | panicked c => exact hQ _ _ _ he
        | outgrown => exact he)⟩
      case row row args => exact ⟨h.1, RowsIn.mono h.2 (fun u w'' he => swap a u _ hy he)⟩
      case round l f tmps as body => exact ⟨h.1, RoundIn.mono h.2 (fun e w'' he => by
        cases e with
        | returned u => exact swap a u _ hy he
        | panicked c => exact hQ _ _ _ he
        | outgrown => exact he)⟩
    | halt x w' =>
      cases x <;> simp only [Oper.uponIn] at h ⊢
      case panic u => exact hQ _ _ _ h
  · rename_i hw
    rw [if_neg hw] at h
    exact swap a undef _ hy h
theorem wpAX_first {ks : Nat → Bool} {T : World → Prop} {i : Nat} {oi : Oper} {v : Value} (hi : ops[i]? = some oi) (hsel : ∀ (j : Nat) (o : Oper) cs b, ops[j]? = some o → o.op ≠ .select cs b)
    (hQ : ∀ c a d v w, Q (.panic c) (a.put d v) w → Q (.panic c) a w)
    (hT : ∀ (listed : Array Bool) (j : Nat), Closed md ops listed → j ∈ Region.ready md ops listed → listed.getD i true = false → j ≠ i → ∀ w w', T w → (ks j = true → S w → S w') → T w') :
    ∀ (fuel : Nat) (listed : Array Bool) (a : Act) (w : World), Closed md ops listed →
      (∀ j oj, ops[j]? = some oj → j ≠ i → listed.getD j true = false → (∀ e ∈ oj.after, Region.binds md e = true → e.on ≠ i) → oi.apart ops oj = true) →
      i ∈ Region.ready md ops listed → YieldsIf P ops T oi v a → T w →
      wpAX P md ops Q S ks fuel (listed.setIfInBounds i true) (a.put oi.dst v) w → wpAX P md ops Q S ks (fuel + 1) listed a w := by
  intro fuel
  induction fuel with
  | zero =>
    intro listed a w _ _ hr hy hS H
    refine ⟨fun h => (by rw [h] at hr; cases hr), fun j hj => ?_⟩
    by_cases hji : j = i
    · subst hji; exact YieldsIf.ox hi hy hS ⟨fun _ h => h, H⟩
    · have := ready_mono hj hji
      rw [H.1] at this
      cases this
  | succ fuel ih =>
    intro listed a w hcl hfree hr hy hS H
    refine ⟨fun h => (by rw [h] at hr; cases hr), fun j hj => ?_⟩
    by_cases hji : j = i
    · subst hji; exact YieldsIf.ox hi hy hS ⟨fun _ h => h, H⟩
    · have h1 := H.2 j (ready_mono hj hji)
      obtain ⟨hjun, oj, hoj, hall⟩ := mem_ready.1 hj
      have hiun := (mem_ready.1 hr).1
      have hnot : ∀ e ∈ oj.after, Region.binds md e = true → e.on ≠ i := fun e he hb heq => by
        have h1 := hall e he hb
        rw [heq] at h1
        rw [getD_tf hiun] at h1
        cases h1
      have h2 := ox_put hoj (hfree j oj hoj hji hjun hnot) (fun cs b => hsel i oi cs b hi) (fun cs b => hsel j oj cs b hoj) (fun c a w h => hQ c a _ _ w h) hy h1
      have hfree' : ∀ k ok, ops[k]? = some ok → k ≠ i → (listed.setIfInBounds j true).getD k true = false →
          (∀ e ∈ ok.after, Region.binds md e = true → e.on ≠ i) → oi.apart ops ok = true := fun k ok hk hki hun hno => by
        refine hfree k ok hk hki ?_ hno
        by_cases hjk : j = k
        · subst hjk; exact hjun
        · rw [getD_set_ne true hjk] at hun; exact hun
      refine wpOX_mono (fun a' w' h3 => ⟨h3.2.1, ih (listed.setIfInBounds j true) a' w' (hcl.set hj) hfree' (ready_mono hr (Ne.symm hji)) h3.1 (hT listed j hcl hj hiun hji w w' hS h3.2.1) ?_⟩) h2
      rw [Array.setIfInBounds_comm _ _ hji]
      exact h3.2.2

def wpTX (P : Program) (ops : Array Oper) (Q : Exit → Act → World → Prop) (S : World → Prop) : PT → Act → World → Prop
  | .stop, a, w => Q .normal a w
  | .op i 0 r, a, w => ∃ o v, ops[i]? = some o ∧ YieldsIf P ops (fun _ => True) o v a ∧ wpTX P ops Q S r (a.put o.dst v) w
  | .op i 1 r, a, w => ∃ o v, ops[i]? = some o ∧ YieldsIf P ops S o v a ∧ wpTX P ops Q S r (a.put o.dst v) w
  | .op i 2 r, a, w => wpOX P ops Q i (fun a' w' => S w' ∧ wpTX P ops Q S r a' w') a w
  | .op i _ r, a, w => wpOX P ops Q i (wpTX P ops Q S r) a w
  | .fork i r j s, a, w => wpOX P ops Q i (fun a' w' => S w' ∧ wpTX P ops Q S r a' w') a w ∧ wpOX P ops Q j (fun a' w' => S w' ∧ wpTX P ops Q S s a' w') a w

theorem wpAX_of_tree (hs : Region.noSelect ops = true) (hQ : ∀ c a d v w, Q (.panic c) (a.put d v) w → Q (.panic c) a w) (full : List (Nat × Nat)) :
    ∀ (t : PT) (n : Nat) (listed : Array Bool) (live : Bool) (a : Act) (w : World), ptOk md ops full t n listed live = true → Closed md ops listed → (live = true → S w) →
      wpTX P ops Q S t a w → wpAX P md ops Q S (fun j => kindOf full j != 3) n listed a w := by
  intro t
  induction t with
  | stop =>
    intro n listed live a w hok _ _ h
    simp only [ptOk, Bool.and_eq_true, beq_iff_eq, List.isEmpty_iff] at hok
    rw [hok.1]
    exact ⟨hok.2, h⟩
  | op i k r ih =>
    intro n listed live a w hok hcl hS h
    match n, k with
    | 0, 0 => simp [ptOk] at hok
    | 0, 1 => simp [ptOk] at hok
    | 0, 2 => simp [ptOk] at hok
    | 0, k + 3 => simp [ptOk] at hok
    | n + 1, 0 =>
      simp only [ptOk, Bool.and_eq_true] at hok
      obtain ⟨o, v, ho, hy, hr⟩ := h
      refine wpAX_first (T := fun _ => True) ho (Region.noSelect_spec hs) hQ (fun _ _ _ _ _ _ _ _ _ _ => trivial) n listed a w hcl (Region.free_spec ho hok.1.2) (by simpa using hok.1.1) hy trivial ?_
      exact ih n _ live _ w hok.2 (hcl.set (by simpa using hok.1.1)) hS hr
    | n + 1, 1 =>
      simp only [ptOk, Bool.and_eq_true] at hok
      obtain ⟨o, v, ho, hy, hr⟩ := h
      have hready : i ∈ Region.ready md ops listed := by simpa using hok.1.1.1.2
      refine wpAX_first (T := S) ho (Region.noSelect_spec hs) hQ ?_ n listed a w hcl (Region.free_spec ho hok.1.1.2) hready hy (hS hok.1.1.1.1) ?_
      · intro listed' j hcl' hj hun hji w w' hSw hk
        have hjs : j < ops.size := by
          obtain ⟨_, oj, hoj, _⟩ := mem_ready.1 hj
          exact (Array.getElem?_eq_some_iff.1 hoj).1
        have h1 := List.all_eq_true.1 hok.1.2 j (List.mem_range.2 hjs)
        simp only [Bool.or_eq_true] at h1
        rcases h1 with h1 | h1
        · have := isPre_listed hcl' _ _ _ h1 (.inr hj)
          rw [getD_tf hun] at this
          cases this
        · exact hk h1 hSw
      · exact ih n _ live _ w hok.2 (hcl.set hready) hS hr
    | n + 1, 2 =>
      simp only [ptOk, Bool.and_eq_true, beq_iff_eq] at hok
      have hrd := hok.1
      refine ⟨fun h0 => (by rw [hrd] at h0; cases h0), fun j hj => ?_⟩
      have hj' := hj
      rw [hrd, List.mem_singleton] at hj'
      subst hj'
      exact wpOX_mono (fun a' w' h' => ⟨fun _ _ => h'.1, ih n _ live a' w' hok.2 (hcl.set hj) (fun _ => h'.1) h'.2⟩) h
    | n + 1, 3 =>
      simp only [ptOk, Bool.and_eq_true, beq_iff_eq] at hok
      have hrd := hok.1.1
      refine ⟨fun h0 => (by rw [hrd] at h0; cases h0), fun j hj => ?_⟩
      have hj' := hj
      rw [hrd, List.mem_singleton] at hj'
      subst hj'
      exact wpOX_mono (fun a' w' h' => ⟨fun hx => by simp [hok.1.2] at hx, ih n _ false a' w' hok.2 (hcl.set hj) (fun h0 => by cases h0) h'⟩) h
    | n + 1, k + 4 => simp [ptOk] at hok
  | fork i r j s ihr ihs =>
    intro n listed live a w hok hcl hS h
    match n with
    | 0 => simp [ptOk] at hok
    | n + 1 =>
      simp only [ptOk, Bool.and_eq_true, beq_iff_eq] at hok
      have hrd := hok.1.1
      refine ⟨fun h0 => (by rw [hrd] at h0; cases h0), fun m hm => ?_⟩
      have hm' := hm
      rw [hrd, List.mem_cons, List.mem_singleton] at hm'
      rcases hm' with rfl | rfl
      · exact wpOX_mono (fun a' w' h' => ⟨fun _ _ => h'.1, ihr n _ live a' w' hok.1.2 (hcl.set hm) (fun _ => h'.1) h'.2⟩) h.1
      · exact wpOX_mono (fun a' w' h' => ⟨fun _ _ => h'.1, ihs n _ live a' w' hok.2 (hcl.set hm) (fun _ => h'.1) h'.2⟩) h.2
theorem wpIn_treeX (S : World → Prop) (full : List (Nat × Nat)) (t : PT) {id : Nat} {a : Act} {w : World} (hm : P.follows .mixedOrders = true) (hok : treeB ops full t = true) (hn : ops.toList.all ndO = true)
    (hQ : ∀ c a d v w, Q (.panic c) (a.put d v) w → Q (.panic c) a w) (hS : S w.drew) (h : wpTX P ops Q S t a w.drew) : (Code.region id ops true).wpIn (FR ro) 0 P Q a w := by
  simp only [treeB, Bool.and_eq_true] at hok
  refine wpIn_region_any hm ?_
  exact wpAX.anyIn hn _ _ _ _ (wpAX_of_tree (P := P) (Q := Q) (S := S) hok.1 hQ full t _ _ true a w.drew hok.2 Closed.start (fun _ => hS) h)
end
end Go.Tl
