/- A Hoare logic over plain data: trees, slots, owned entries; no program in sight. -/
import Derived.Test.YtlpknbneilgjkaaGPl
import Derived.OrdersIn
import Derived.OwnWalkIn
import Derived.LoopNIn
import Derived.RangeFuncLeaves
import Derived.RangeFuncRecord
import Derived.WalkKit
import Derived.Lib.Hide
import Derived.Deep.AppendLies
import Derived.Scope
import Derived.Laws.CopyRow
import Derived.Laws.MakeOwn
import Derived.Laws.OwnMore
import Derived.IntWalk
import Derived.ChangeKeysEq
import Derived.Laws.Cover3
import Derived.RangeFuncIn
namespace Go.Tl
open Go Go.RowKit
open Go.Proofs.Ytlpknbneilgjkaa (PT ptOk treeB kindOf isPre Closed isPre_listed getD_tf)
set_option linter.unusedVariables false
abbrev FR (ro : Option Nat) : Fence := { Fence.wide with round := ro }
def ndO (o : Oper) : Bool := match o.op with | .defer _ => false | _ => true
theorem ndO_op {o : Oper} (h : ndO o = true) : ∀ c, o.op ≠ .defer c := fun c e => by simp [ndO, e] at h
section
variable {P : Program} {ops : Array Oper} {Q : Exit → Act → World → Prop} {ro : Option Nat}
def wpX (P : Program) (o : Oper) (a : Act) (w : World) (K : Act → World → Prop) (Q : Exit → Act → World → Prop) : Prop := o.uponIn (FR none) 0 P a K Q ((execOp a.eval o).run P w)
theorem wpX.wpIn {o : Oper} {a : Act} {w : World} {K : Act → World → Prop} (hn : ndO o = true) (h : wpX P o a w K Q) : o.wpIn (FR ro) 0 P a w K Q := by
  refine ⟨fun _ _ => trivial, ?_⟩
  rw [Oper.semAt_eq _ _ _ (ndO_op hn)]
  unfold wpX at h
  generalize (execOp a.eval o).run P w = r at *
  cases r with
  | ok x w' => cases x <;> first | exact h | (simp only [Oper.uponIn] at h ⊢; exact h)
  | halt x w' => cases x <;> first | exact h | (simp only [Oper.uponIn] at h ⊢; exact h)
theorem wpX_mono {o : Oper} {a : Act} {w : World} {K K' : Act → World → Prop} (h : ∀ a w, K a w → K' a w) (hh : wpX P o a w K Q) : wpX P o a w K' Q := by
  unfold wpX at *
  generalize (execOp a.eval o).run P w = r at *
  cases r with
  | ok x w' =>
    cases x <;> simp only [Oper.uponIn] at hh ⊢ <;>
      first
        | exact h _ _ hh
        | exact ⟨hh.1, CallsIn.mono hh.2 (fun e w'' he => by cases e <;> first | exact h _ _ he | exact he)⟩
        | exact ⟨hh.1, RowsIn.mono hh.2 (fun _ _ he => h _ _ he)⟩
        | exact ⟨hh.1, RoundIn.mono hh.2 (fun e w'' he => by cases e <;> first | exact h _ _ he | exact he)⟩
        | exact hh
  | halt x w' => cases x <;> simp only [Oper.uponIn] at hh ⊢ <;> exact hh
def wpLX (P : Program) (ops : Array Oper) (Q : Exit → Act → World → Prop) : List Oper → Act → World → Prop
  | [], a, w => Q .normal a w
  | o :: rest, a, w => if Region.wanted o (yielded ops a.tmps) = true then wpX P o a w (wpLX P ops Q rest) Q else wpLX P ops Q rest (a.put o.dst undef) w
theorem wpLX.listIn : ∀ (l : List Oper) (a : Act) (w : World), l.all ndO = true → wpLX P ops Q l a w → wpListIn (FR ro) 0 P ops Q l a w
  | [], a, w, _, h => h
  | o :: rest, a, w, hn, h => by
    simp only [List.all_cons, Bool.and_eq_true] at hn
    simp only [wpLX] at h
    simp only [wpListIn]
    split
    · rename_i hw
      rw [if_pos hw] at h
      exact Oper.wpIn_mono (fun a w h => wpLX.listIn rest a w hn.2 h) (h.wpIn hn.1)
    · rename_i hw
      rw [if_neg hw] at h
      exact ⟨fun _ _ => trivial, wpLX.listIn rest _ w hn.2 h⟩
theorem wpIn_regionX {id : Nat} {a : Act} {w : World} (hn : ops.toList.all ndO = true) (h : wpLX P ops Q ops.toList a w) : (Code.region id ops false).wpIn (FR ro) 0 P Q a w := wpIn_region_list (wpLX.listIn _ _ _ hn h)
def wpOX (P : Program) (ops : Array Oper) (Q : Exit → Act → World → Prop) (i : Nat) (K : Act → World → Prop) (a : Act) (w : World) : Prop :=
  ∃ o, ops[i]? = some o ∧ if Region.wanted o (yielded ops a.tmps) = true then wpX P o a w K Q else K (a.put o.dst undef) w
theorem wpOX_mono {i : Nat} {a : Act} {w : World} {K K' : Act → World → Prop} (h : ∀ a w, K a w → K' a w) (hh : wpOX P ops Q i K a w) : wpOX P ops Q i K' a w := by
  obtain ⟨o, ho, hh⟩ := hh
  refine ⟨o, ho, ?_⟩
  split
  · rename_i hw; rw [if_pos hw] at hh; exact wpX_mono h hh
  · rename_i hw; rw [if_neg hw] at hh; exact h _ _ hh
theorem wpOX.wpOpIn {i : Nat} {a : Act} {w : World} {K : Act → World → Prop} (hn : ops.toList.all ndO = true) (hh : wpOX P ops Q i K a w) : Go.wpOpIn (FR ro) 0 P ops Q i K a w := by
  obtain ⟨o, ho, hh⟩ := hh
  have hmem : o ∈ ops.toList := by simpa using Array.mem_of_getElem? ho
  unfold Go.wpOpIn
  simp only [ho]
  split
  · rename_i hw; rw [if_pos hw] at hh; exact hh.wpIn (List.all_eq_true.1 hn o hmem)
  · rename_i hw; rw [if_neg hw] at hh; exact ⟨fun _ _ => trivial, hh⟩
def wpAX (P : Program) (md : Region.Mode) (ops : Array Oper) (Q : Exit → Act → World → Prop) (S : World → Prop) (ks : Nat → Bool) : Nat → Array Bool → Act → World → Prop
  | 0, listed, a, w => Region.ready md ops listed = [] ∧ Q .normal a w
  | fuel + 1, listed, a, w =>
    (Region.ready md ops listed = [] → Q .normal a w) ∧
    ∀ i ∈ Region.ready md ops listed, wpOX P ops Q i (fun a' w' => (ks i = true → S w → S w') ∧ wpAX P md ops Q S ks fuel (listed.setIfInBounds i true) a' w') a w
variable {md : Region.Mode} {S : World → Prop}
theorem wpAX.anyIn {ks : Nat → Bool} (hn : ops.toList.all ndO = true) : ∀ (fuel : Nat) (listed : Array Bool) (a : Act) (w : World), wpAX P md ops Q S ks fuel listed a w → wpAnyIn (FR ro) 0 P md ops Q fuel listed a w
  | 0, _, _, _, h => h
  | fuel + 1, _, _, _, h => ⟨h.1, fun i hi => (wpOX_mono (fun a' w' h' => wpAX.anyIn hn fuel _ a' w' h'.2) (h.2 i hi)).wpOpIn hn⟩
theorem YieldsIf.ox {i : Nat} {o : Oper} {v : Value} {a : Act} (hi : ops[i]? = some o) (hy : YieldsIf P ops S o v a) {K : Act → World → Prop} {w : World} (hS : S w) (h : K (a.put o.dst v) w) : wpOX P ops Q i K a w := by
  refine ⟨o, hi, ?_⟩
  rcases hy with ⟨hw, hv⟩ | ⟨hw, rfl⟩
  · rw [if_pos hw]
    unfold wpX
    rw [hv w hS, Oper.uponIn_value]
    exact h
  · rw [if_neg (by rw [hw]; simp)]
    exact h
theorem ox_put {j : Nat} {oi oj : Oper} {v : Value} (hj : ops[j]? = some oj) (hap : oi.apart ops oj = true) (hsi : ∀ cs b, oi.op ≠ .select cs b) (hsj : ∀ cs b, oj.op ≠ .select cs b)
    (hQ : ∀ c a w, Q (.panic c) (a.put oi.dst v) w → Q (.panic c) a w) {K : Act → World → Prop} {a : Act} {w : World} (hy : YieldsIf P ops S oi v a) (h : wpOX P ops Q j K (a.put oi.dst v) w) :
    wpOX P ops Q j (fun a' w' => YieldsIf P ops S oi v a' ∧ K (a'.put oi.dst v) w') a w := by
  obtain ⟨h1, h2, h3⟩ := Oper.apart_spec hap
  obtain ⟨o, ho, h⟩ := h
  obtain rfl : o = oj := Option.some.inj (ho.symm.trans hj)
  have still : ∀ (b : Act), YieldsIf P ops S oi v b → ∀ u, YieldsIf P ops S oi v (b.put o.dst u) := fun b hb u => hb.of_same (execOp_put oi hsi b o.dst u h3) (wanted_put oi b o.dst u h3)
  have swap : ∀ (b : Act) (u : Value) (w' : World), YieldsIf P ops S oi v b → K ((b.put oi.dst v).put o.dst u) w' → YieldsIf P ops S oi v (b.put o.dst u) ∧ K ((b.put o.dst u).put oi.dst v) w' := fun b u w' hb hk => ⟨still b hb u, by rw [← Act.put_comm b v u h2]; exact hk⟩
  refine ⟨o, hj, ?_⟩
  rw [wanted_put o a oi.dst v h1] at h
  split
  · rename_i hw
    rw [if_pos hw] at h
    unfold wpX at *
    rw [execOp_put o hsj a oi.dst v h1] at h
    generalize (execOp a.eval o).run P w = r at *
    cases r with
    | ok x w' =>
      cases x <;> simp only [Oper.uponIn] at h ⊢
      case value u => exact swap a u _ hy h
      case skip => exact swap a undef _ hy h
      case defer d =>
        have := swap { a with defers := d :: a.defers } undef w' (hy.of_same rfl rfl) (by rw [← Act.put_defers]; exact h)
        exact this
      case enter f args => exact ⟨h.1, CallsIn.mono h.2 (fun e w'' he => by
        cases e with
        | returned u => exact swap a u _ hy he
        | panicked c => exact hQ _ _ _ he
        | outgrown => exact he)⟩
      case row row args => exact ⟨h.1, RowsIn.mono h.2 (fun u w'' he => swap a u _ hy he)⟩
      case round l f tmps as body => exact ⟨h.1, RoundIn.mono h.2 (fun e w'' he => by
        cases e with
        | returned u => exact swap a u _ hy he
        | panicked c => exact hQ _ _ _ he
        | outgrown => exact he)⟩
    | halt x w' =>
      cases x <;> simp only [Oper.uponIn] at h ⊢
      case panic u => exact hQ _ _ _ h
  · rename_i hw
    rw [if_neg hw] at h
    exact swap a undef _ hy h
theorem wpAX_first {ks : Nat → Bool} {T : World → Prop} {i : Nat} {oi : Oper} {v : Value} (hi : ops[i]? = some oi) (hsel : ∀ (j : Nat) (o : Oper) cs b, ops[j]? = some o → o.op ≠ .select cs b)
    (hQ : ∀ c a d v w, Q (.panic c) (a.put d v) w → Q (.panic c) a w)
    (hT : ∀ (listed : Array Bool) (j : Nat), Closed md ops listed → j ∈ Region.ready md ops listed → listed.getD i true = false → j ≠ i → ∀ w w', T w → (ks j = true → S w → S w') → T w') :
    ∀ (fuel : Nat) (listed : Array Bool) (a : Act) (w : World), Closed md ops listed →
      (∀ j oj, ops[j]? = some oj → j ≠ i → listed.getD j true = false → (∀ e ∈ oj.after, Region.binds md e = true → e.on ≠ i) → oi.apart ops oj = true) →
      i ∈ Region.ready md ops listed → YieldsIf P ops T oi v a → T w →
      wpAX P md ops Q S ks fuel (listed.setIfInBounds i true) (a.put oi.dst v) w → wpAX P md ops Q S ks (fuel + 1) listed a w := by
  intro fuel
  induction fuel with
  | zero =>
    intro listed a w _ _ hr hy hS H
    refine ⟨fun h => (by rw [h] at hr; cases hr), fun j hj => ?_⟩
    by_cases hji : j = i
    · subst hji; exact YieldsIf.ox hi hy hS ⟨fun _ h => h, H⟩
    · have := ready_mono hj hji
      rw [H.1] at this
      cases this
  | succ fuel ih =>
    intro listed a w hcl hfree hr hy hS H
    refine ⟨fun h => (by rw [h] at hr; cases hr), fun j hj => ?_⟩
    by_cases hji : j = i
    · subst hji; exact YieldsIf.ox hi hy hS ⟨fun _ h => h, H⟩
    · have h1 := H.2 j (ready_mono hj hji)
      obtain ⟨hjun, oj, hoj, hall⟩ := mem_ready.1 hj
      have hiun := (mem_ready.1 hr).1
      have hnot : ∀ e ∈ oj.after, Region.binds md e = true → e.on ≠ i := fun e he hb heq => by
        have h1 := hall e he hb
        rw [heq] at h1
        rw [getD_tf hiun] at h1
        cases h1
      have h2 := ox_put hoj (hfree j oj hoj hji hjun hnot) (fun cs b => hsel i oi cs b hi) (fun cs b => hsel j oj cs b hoj) (fun c a w h => hQ c a _ _ w h) hy h1
      have hfree' : ∀ k ok, ops[k]? = some ok → k ≠ i → (listed.setIfInBounds j true).getD k true = false →
          (∀ e ∈ ok.after, Region.binds md e = true → e.on ≠ i) → oi.apart ops ok = true := fun k ok hk hki hun hno => by
        refine hfree k ok hk hki ?_ hno
        by_cases hjk : j = k
        · subst hjk; exact hjun
        · rw [getD_set_ne true hjk] at hun; exact hun
      refine wpOX_mono (fun a' w' h3 => ⟨h3.2.1, ih (listed.setIfInBounds j true) a' w' (hcl.set hj) hfree' (ready_mono hr (Ne.symm hji)) h3.1 (hT listed j hcl hj hiun hji w w' hS h3.2.1) ?_⟩) h2
      rw [Array.setIfInBounds_comm _ _ hji]
      exact h3.2.2
def wpTX (P : Program) (ops : Array Oper) (Q : Exit → Act → World → Prop) (S : World → Prop) : PT → Act → World → Prop
  | .stop, a, w => Q .normal a w
  | .op i 0 r, a, w => ∃ o v, ops[i]? = some o ∧ YieldsIf P ops (fun _ => True) o v a ∧ wpTX P ops Q S r (a.put o.dst v) w
  | .op i 1 r, a, w => ∃ o v, ops[i]? = some o ∧ YieldsIf P ops S o v a ∧ wpTX P ops Q S r (a.put o.dst v) w
  | .op i 2 r, a, w => wpOX P ops Q i (fun a' w' => S w' ∧ wpTX P ops Q S r a' w') a w
  | .op i _ r, a, w => wpOX P ops Q i (wpTX P ops Q S r) a w
  | .fork i r j s, a, w => wpOX P ops Q i (fun a' w' => S w' ∧ wpTX P ops Q S r a' w') a w ∧ wpOX P ops Q j (fun a' w' => S w' ∧ wpTX P ops Q S s a' w') a w
theorem wpAX_of_tree (hs : Region.noSelect ops = true) (hQ : ∀ c a d v w, Q (.panic c) (a.put d v) w → Q (.panic c) a w) (full : List (Nat × Nat)) :
    ∀ (t : PT) (n : Nat) (listed : Array Bool) (live : Bool) (a : Act) (w : World), ptOk md ops full t n listed live = true → Closed md ops listed → (live = true → S w) →
      wpTX P ops Q S t a w → wpAX P md ops Q S (fun j => kindOf full j != 3) n listed a w := by
  intro t
  induction t with
  | stop =>
    intro n listed live a w hok _ _ h
    simp only [ptOk, Bool.and_eq_true, beq_iff_eq, List.isEmpty_iff] at hok
    rw [hok.1]
    exact ⟨hok.2, h⟩
  | op i k r ih =>
    intro n listed live a w hok hcl hS h
    match n, k with
    | 0, 0 => simp [ptOk] at hok
    | 0, 1 => simp [ptOk] at hok
    | 0, 2 => simp [ptOk] at hok
    | 0, k + 3 => simp [ptOk] at hok
    | n + 1, 0 =>
      simp only [ptOk, Bool.and_eq_true] at hok
      obtain ⟨o, v, ho, hy, hr⟩ := h
      refine wpAX_first (T := fun _ => True) ho (Region.noSelect_spec hs) hQ (fun _ _ _ _ _ _ _ _ _ _ => trivial) n listed a w hcl (Region.free_spec ho hok.1.2) (by simpa using hok.1.1) hy trivial ?_
      exact ih n _ live _ w hok.2 (hcl.set (by simpa using hok.1.1)) hS hr
    | n + 1, 1 =>
      simp only [ptOk, Bool.and_eq_true] at hok
      obtain ⟨o, v, ho, hy, hr⟩ := h
      have hready : i ∈ Region.ready md ops listed := by simpa using hok.1.1.1.2
      refine wpAX_first (T := S) ho (Region.noSelect_spec hs) hQ ?_ n listed a w hcl (Region.free_spec ho hok.1.1.2) hready hy (hS hok.1.1.1.1) ?_
      · intro listed' j hcl' hj hun hji w w' hSw hk
        have hjs : j < ops.size := by
          obtain ⟨_, oj, hoj, _⟩ := mem_ready.1 hj
          exact (Array.getElem?_eq_some_iff.1 hoj).1
        have h1 := List.all_eq_true.1 hok.1.2 j (List.mem_range.2 hjs)
        simp only [Bool.or_eq_true] at h1
        rcases h1 with h1 | h1
        · have := isPre_listed hcl' _ _ _ h1 (.inr hj)
          rw [getD_tf hun] at this
          cases this
        · exact hk h1 hSw
      · exact ih n _ live _ w hok.2 (hcl.set hready) hS hr
    | n + 1, 2 =>
      simp only [ptOk, Bool.and_eq_true, beq_iff_eq] at hok
      have hrd := hok.1
      refine ⟨fun h0 => (by rw [hrd] at h0; cases h0), fun j hj => ?_⟩
      have hj' := hj
      rw [hrd, List.mem_singleton] at hj'
      subst hj'
      exact wpOX_mono (fun a' w' h' => ⟨fun _ _ => h'.1, ih n _ live a' w' hok.2 (hcl.set hj) (fun _ => h'.1) h'.2⟩) h
    | n + 1, 3 =>
      simp only [ptOk, Bool.and_eq_true, beq_iff_eq] at hok
      have hrd := hok.1.1
      refine ⟨fun h0 => (by rw [hrd] at h0; cases h0), fun j hj => ?_⟩
      have hj' := hj
      rw [hrd, List.mem_singleton] at hj'
      subst hj'
      exact wpOX_mono (fun a' w' h' => ⟨fun hx => by simp [hok.1.2] at hx, ih n _ false a' w' hok.2 (hcl.set hj) (fun h0 => by cases h0) h'⟩) h
    | n + 1, k + 4 => simp [ptOk] at hok
  | fork i r j s ihr ihs =>
    intro n listed live a w hok hcl hS h
    match n with
    | 0 => simp [ptOk] at hok
    | n + 1 =>
      simp only [ptOk, Bool.and_eq_true, beq_iff_eq] at hok
      have hrd := hok.1.1
      refine ⟨fun h0 => (by rw [hrd] at h0; cases h0), fun m hm => ?_⟩
      have hm' := hm
      rw [hrd, List.mem_cons, List.mem_singleton] at hm'
      rcases hm' with rfl | rfl
      · exact wpOX_mono (fun a' w' h' => ⟨fun _ _ => h'.1, ihr n _ live a' w' hok.1.2 (hcl.set hm) (fun _ => h'.1) h'.2⟩) h.1
      · exact wpOX_mono (fun a' w' h' => ⟨fun _ _ => h'.1, ihs n _ live a' w' hok.2 (hcl.set hm) (fun _ => h'.1) h'.2⟩) h.2
theorem wpIn_treeX (S : World → Prop) (full : List (Nat × Nat)) (t : PT) {id : Nat} {a : Act} {w : World} (hm : P.follows .mixedOrders = true) (hok : treeB ops full t = true) (hn : ops.toList.all ndO = true)
    (hQ : ∀ c a d v w, Q (.panic c) (a.put d v) w → Q (.panic c) a w) (hS : S w.drew) (h : wpTX P ops Q S t a w.drew) : (Code.region id ops true).wpIn (FR ro) 0 P Q a w := by
  simp only [treeB, Bool.and_eq_true] at hok
  refine wpIn_region_any hm ?_
  exact wpAX.anyIn hn _ _ _ _ (wpAX_of_tree (P := P) (Q := Q) (S := S) hok.1 hQ full t _ _ true a w.drew hok.2 Closed.start (fun _ => hS) h)
end
end Go.Tl
namespace Go.Tl
open Go Go.RowKit
set_option linter.unusedVariables false
inductive Tr where
  | sc (v : Value)
  | sl (cp : Bool) (sz n : Nat) (f : Nat → List Tr)
inductive TRel (w : World) (S : Nat → Prop) : Tr → Value → Prop where
  | sc (v : Value) : TRel w S (.sc v) v
  | sl {cp : Bool} {sz n : Nat} {f : Nat → List Tr} {a : Option Addr} {c : Nat} (val : Nat → Nat → Value) (hc : cp = true → n ≤ c)
      (hl : ∀ k, k < n → (f k).length = sz)
      (h : ∀ k, k < n → ∃ b off, a = some ⟨b, off, none⟩ ∧ S b ∧ ∀ j, j < sz → w.cell? ⟨b, off + k * sz + j, none⟩ = some (val k j))
      (ih : ∀ (k j : Nat) (x : Tr), k < n → (f k)[j]? = some x → TRel w S x (val k j)) : TRel w S (.sl cp sz n f) (.slice a n c)
inductive AV where
  | v (x : Value)
  | t (x : Tr)
  | ag (cs : List AV)
  | tup (vs : List AV)
  | elt (sz n : Nat) (f : Nat → List Tr) (k o : Nat)
  | fn (g : Fn) (first caps : List AV)
  | rp (v : Value) (sz k o : Nat)
inductive VRel (w : World) (S : Nat → Prop) : AV → Value → Prop where
  | v (x : Value) : VRel w S (.v x) x
  | t {x : Tr} {v : Value} (h : TRel w S x v) : VRel w S (.t x) v
  | ag {cs : List AV} {vs : List Value} (hl : cs.length = vs.length) (h : ∀ (j : Nat) (x : AV) (y : Value), cs[j]? = some x → vs[j]? = some y → VRel w S x y) : VRel w S (.ag cs) (.agg vs.toArray)
  | tup {cs : List AV} {vs : List Value} (hl : cs.length = vs.length) (h : ∀ (j : Nat) (x : AV) (y : Value), cs[j]? = some x → vs[j]? = some y → VRel w S x y) : VRel w S (.tup cs) (.tuple vs.toArray)
  | elt {cp : Bool} {sz n : Nat} {f : Nat → List Tr} {k o b off c : Nat} (h : TRel w S (.sl cp sz n f) (.slice (some ⟨b, off, none⟩) n c)) (hk : k < n) : VRel w S (.elt sz n f k o) (.pointer (some ⟨b, off + k * sz + o, none⟩))
  | fn {g : Fn} {cs ds : List AV} {vs us : List Value} (hl : cs.length = vs.length) (h : ∀ (j : Nat) (x : AV) (y : Value), cs[j]? = some x → vs[j]? = some y → VRel w S x y)
      (hl' : ds.length = us.length) (h' : ∀ (j : Nat) (x : AV) (y : Value), ds[j]? = some x → us[j]? = some y → VRel w S x y) : VRel w S (.fn g cs ds) (.func g vs.toArray us.toArray)
  | rp {g n cap sz k o : Nat} : VRel w S (.rp (.slice (some ⟨g, 0, none⟩) n cap) sz k o) (.pointer (some ⟨g, k * sz + o, none⟩))
def VRels (w : World) (S : Nat → Prop) (cs : List AV) (vs : List Value) : Prop := cs.length = vs.length ∧ ∀ (j : Nat) (x : AV) (y : Value), cs[j]? = some x → vs[j]? = some y → VRel w S x y
section
variable {w w' : World} {S S' : Nat → Prop}
theorem cell_of_block {b o : Nat} (h : w'.heap[b]? = w.heap[b]?) : w'.cell? ⟨b, o, none⟩ = w.cell? ⟨b, o, none⟩ := by simp [World.cell?, h]
theorem TRel.mono {x : Tr} {v : Value} (h : TRel w S x v) (hS : ∀ b, S b → S' b) (hw : ∀ b, S b → w'.heap[b]? = w.heap[b]?) : TRel w' S' x v := by
  induction h with
  | sc v => exact .sc v
  | sl val hc hl h _ ih =>
    refine .sl val hc hl (fun k hk => ?_) ih
    obtain ⟨b, off, e, hb, hcell⟩ := h k hk
    exact ⟨b, off, e, hS b hb, fun j hj => (cell_of_block (hw b hb)).trans (hcell j hj)⟩
theorem VRel.mono {x : AV} {v : Value} (h : VRel w S x v) (hS : ∀ b, S b → S' b) (hw : ∀ b, S b → w'.heap[b]? = w.heap[b]?) : VRel w' S' x v := by
  induction h with
  | v x => exact .v x
  | t h => exact .t (h.mono hS hw)
  | ag hl _ ih => exact .ag hl ih
  | tup hl _ ih => exact .tup hl ih
  | elt h hk => exact .elt (h.mono hS hw) hk
  | fn hl _ hl' _ ih ih' => exact .fn hl ih hl' ih'
  | rp => exact .rp
theorem VRels.mono {cs : List AV} {vs : List Value} (h : VRels w S cs vs) (hS : ∀ b, S b → S' b) (hw : ∀ b, S b → w'.heap[b]? = w.heap[b]?) : VRels w' S' cs vs :=
  ⟨h.1, fun j x y hx hy => (h.2 j x y hx hy).mono hS hw⟩
theorem VRels.get {cs : List AV} {vs : List Value} (h : VRels w S cs vs) {j : Nat} {x : AV} (hx : cs[j]? = some x) : ∃ v, vs[j]? = some v ∧ VRel w S x v := by
  have hj : j < vs.length := by rw [← h.1]; exact (List.getElem?_eq_some_iff.1 hx).1
  exact ⟨_, List.getElem?_eq_getElem hj, h.2 j x _ hx (List.getElem?_eq_getElem hj)⟩
theorem VRels.nil : VRels w S [] [] := ⟨rfl, fun j x y h => by simp at h⟩
theorem VRels.cons {x : AV} {v : Value} {cs : List AV} {vs : List Value} (h : VRel w S x v) (hs : VRels w S cs vs) : VRels w S (x :: cs) (v :: vs) := by
  refine ⟨by simp [hs.1], fun j y u hy hu => ?_⟩
  cases j with
  | zero => simp at hy hu; subst hy; subst hu; exact h
  | succ j => simp at hy hu; exact hs.2 j y u hy hu
theorem VRels.append {cs ds : List AV} {vs us : List Value} (h : VRels w S cs vs) (h' : VRels w S ds us) : VRels w S (cs ++ ds) (vs ++ us) := by
  refine ⟨by simp [h.1, h'.1], fun j y u hy hu => ?_⟩
  rcases Nat.lt_or_ge j cs.length with hj | hj
  · rw [List.getElem?_append_left hj] at hy
    rw [List.getElem?_append_left (by rw [← h.1]; exact hj)] at hu
    exact h.2 j y u hy hu
  · rw [List.getElem?_append_right hj] at hy
    rw [List.getElem?_append_right (by rw [← h.1]; exact hj)] at hu
    rw [← h.1] at hu
    exact h'.2 _ y u hy hu
theorem VRels.set {cs : List AV} {vs : List Value} (h : VRels w S cs vs) {x : AV} {v : Value} (hx : VRel w S x v) (j : Nat) : VRels w S (cs.set j x) (vs.set j v) := by
  refine ⟨by simp [h.1], fun i y u hy hu => ?_⟩
  rw [List.getElem?_set] at hy hu
  split at hy
  · rename_i e
    subst e
    split at hy
    · rw [if_pos rfl] at hu
      split at hu
      · simp at hy hu; subst hy; subst hu; exact hx
      · cases hu
    · cases hy
  · rename_i e
    rw [if_neg e] at hu
    exact h.2 i y u hy hu
theorem VRels.take {cs : List AV} {vs : List Value} (h : VRels w S cs vs) (n : Nat) : VRels w S (cs.take n) (vs.take n) := by
  refine ⟨by simp [h.1], fun i y u hy hu => ?_⟩
  rw [List.getElem?_take] at hy hu
  split at hy
  · rename_i hi; rw [if_pos hi] at hu; exact h.2 i y u hy hu
  · cases hy
theorem VRels.drop {cs : List AV} {vs : List Value} (h : VRels w S cs vs) (n : Nat) : VRels w S (cs.drop n) (vs.drop n) := by
  refine ⟨by simp [h.1], fun i y u hy hu => ?_⟩
  rw [List.getElem?_drop] at hy hu
  exact h.2 _ y u hy hu
theorem VRels.lits (vs : List Value) : VRels w S (vs.map AV.v) vs := by
  refine ⟨by simp, fun j x y hx hy => ?_⟩
  rw [List.getElem?_map, hy] at hx
  simp at hx; subst hx; exact .v _
theorem VRel.lit_inv {x v : Value} (h : VRel w S (.v x) v) : v = x := by cases h; rfl
theorem VRels.lits_inv {xs vs : List Value} (h : VRels w S (xs.map AV.v) vs) : vs = xs := by
  have hl : xs.length = vs.length := by have := h.1; simpa using this
  apply List.ext_getElem? 
  intro j
  rcases Nat.lt_or_ge j xs.length with hj | hj
  · have := h.2 j (.v xs[j]) (vs[j]'(by omega)) (by simp [hj]) (List.getElem?_eq_getElem _)
    rw [List.getElem?_eq_getElem hj, List.getElem?_eq_getElem (by omega), this.lit_inv]
  · rw [List.getElem?_eq_none (by omega), List.getElem?_eq_none hj]
end
structure Ob where
  fp : Nat → Prop
  Φ : World → (Nat → Prop) → Prop
  lt : ∀ {w S}, Φ w S → ∀ g, fp g → g < w.heap.size
  keep : ∀ {w w' S S'}, Φ w S → w'.os = w.os → w'.tape = w.tape → w'.output = w.output → w.heap.size ≤ w'.heap.size → (∀ b, S b → S' b) → (∀ b, S b → w'.heap[b]? = w.heap[b]?) → (∀ g, fp g → w'.heap[g]? = w.heap[g]?) → Φ w' S'
inductive Ent where
  | cl (g : Nat) (T : TypeId) (cs : List AV)
  | rw (v : Value) (E sz : Nat) (rows : List (List AV))
  | ob (o : Ob)
def Ent.blk : Ent → Nat → Prop
  | .cl g _ _, b => g = b
  | .rw v _ _ _, b => v.ownBlock = some b
  | .ob o, b => o.fp b
structure Grw (w w' : World) (p : Nat → Prop) : Prop where
  os : w'.os = w.os
  tape : w'.tape = w.tape
  output : w'.output = w.output
  size : w.heap.size ≤ w'.heap.size
  block : ∀ b, b < w.heap.size → ¬ p b → w'.heap[b]? = w.heap[b]?
theorem Grw.of {w w' : World} {row : Option Nat} {p : Nat → Prop} (h : w.grownBy w' row) (hp : ∀ b, row = some b → p b) : Grw w w' p := ⟨h.os, h.tape, h.output, h.size, fun b hb hn => h.block b hb (fun e => hn (hp b e.symm))⟩
theorem Grw.refl {w : World} {p : Nat → Prop} : Grw w w p := ⟨rfl, rfl, rfl, Nat.le_refl _, fun _ _ _ => rfl⟩
def ERel (w : World) (S : Nat → Prop) : Ent → Prop
  | .cl g T cs => ∃ vs : List Value, w.heap[g]? = some (.cells vs.toArray T (0, 0)) ∧ VRels w S cs vs
  | .rw v E sz rows => ∃ xs, w.ownsRow 0 E sz v rows.length xs ∧ VRels w S rows.flatten xs ∧ ∀ r ∈ rows, r.length = sz
  | .ob o => o.Φ w S
theorem ownsRow_kept {w w' : World} {base : Nat} {e : TypeId} {size : Nat} {v : Value} {n : Nat} {xs : List Value} (h : w.ownsRow base e size v n xs) (hb : ∀ b, v.ownBlock = some b → w'.heap[b]? = w.heap[b]?) : w'.ownsRow base e size v n xs := by
  refine ⟨h.1, ?_⟩
  rcases h.2 with hn | ⟨g, cap, cur, rfl, hbb, hgg, rest⟩
  · exact .inl hn
  · exact .inr ⟨g, cap, cur, rfl, hbb, by rw [hb g rfl]; exact hgg, rest⟩
theorem ERel.lt {w : World} {S : Nat → Prop} {e : Ent} (h : ERel w S e) : ∀ g, e.blk g → g < w.heap.size := by
  intro g hg
  cases e with
  | cl g' T cs =>
    obtain ⟨vs, hv, _⟩ := h
    simp [Ent.blk] at hg; subst hg
    exact (Array.getElem?_eq_some_iff.1 hv).1
  | rw v E sz rows =>
    obtain ⟨xs, ho, _⟩ := h
    exact (ho.lt g hg).2
  | ob o => exact o.lt h g hg
theorem ERel.mono {w w' : World} {S S' : Nat → Prop} {e : Ent} (h : ERel w S e) (hos : w'.os = w.os) (htp : w'.tape = w.tape) (hou : w'.output = w.output) (hsz : w.heap.size ≤ w'.heap.size) (hS : ∀ b, S b → S' b) (hw : ∀ b, S b → w'.heap[b]? = w.heap[b]?) (hg : ∀ g, e.blk g → w'.heap[g]? = w.heap[g]?) : ERel w' S' e := by
  cases e with
  | cl g T cs =>
    obtain ⟨vs, hv, hr⟩ := h
    exact ⟨vs, (hg g rfl).trans hv, hr.mono hS hw⟩
  | rw v E sz rows =>
    obtain ⟨xs, ho, hr, hl⟩ := h
    exact ⟨xs, ownsRow_kept ho hg, hr.mono hS hw, hl⟩
  | ob o => exact o.keep h hos htp hou hsz hS hw hg
def Apart (e e' : Ent) : Prop := ∀ g, e.blk g → ¬ e'.blk g
theorem Apart.symm {e e' : Ent} (h : Apart e e') : Apart e' e := fun g h1 h2 => h g h2 h1
structure HRel (w : World) (S : Nat → Prop) (h : List Ent) : Prop where
  ent : ∀ e ∈ h, ERel w S e
  off : ∀ e ∈ h, ∀ g, e.blk g → ¬ S g
  sep : h.Pairwise Apart
theorem HRel.nil {w : World} {S : Nat → Prop} : HRel w S [] := ⟨fun _ h => (by cases h), fun _ h => (by cases h), List.Pairwise.nil⟩
inductive Repl {α : Type} : List α → α → α → List α → Prop where
  | here {x y : α} {l : List α} : Repl (x :: l) x y (y :: l)
  | there {x y z : α} {l l' : List α} (h : Repl l x y l') : Repl (z :: l) x y (z :: l')
theorem Repl.split {α : Type} {l l' : List α} {x y : α} (h : Repl l x y l') : ∃ a b, l = a ++ x :: b ∧ l' = a ++ y :: b := by
  induction h with
  | @here x y l => exact ⟨[], l, rfl, rfl⟩
  | @there x y z l l' _ ih =>
    obtain ⟨a, b, rfl, rfl⟩ := ih
    exact ⟨z :: a, b, rfl, rfl⟩
inductive Pick {α : Type} : List α → α → List α → Prop where
  | here {x : α} {l : List α} : Pick (x :: l) x l
  | there {x z : α} {l l' : List α} (h : Pick l x l') : Pick (z :: l) x (z :: l')
theorem Pick.split {α : Type} {l l' : List α} {x : α} (h : Pick l x l') : ∃ a b, l = a ++ x :: b ∧ l' = a ++ b := by
  induction h with
  | @here x l => exact ⟨[], l, rfl, rfl⟩
  | @there x z l l' _ ih =>
    obtain ⟨a, b, rfl, rfl⟩ := ih
    exact ⟨z :: a, b, rfl, rfl⟩
inductive Mem1 {α : Type} : α → List α → Prop where
  | here {x : α} {l : List α} : Mem1 x (x :: l)
  | there {x z : α} {l : List α} (h : Mem1 x l) : Mem1 x (z :: l)
theorem Mem1.mem {α : Type} {x : α} {l : List α} (h : Mem1 x l) : x ∈ l := by
  induction h with
  | here => exact List.mem_cons_self
  | there _ ih => exact List.mem_cons_of_mem _ ih
theorem pairwise_repl {α : Type} {R : α → α → Prop} {a b : List α} {x y : α} (h : (a ++ x :: b).Pairwise R) (h1 : ∀ z ∈ a, R z y) (h2 : ∀ z ∈ b, R y z) : (a ++ y :: b).Pairwise R := by
  rw [List.pairwise_append] at h ⊢
  obtain ⟨ha, hb, hab⟩ := h
  rw [List.pairwise_cons] at hb ⊢
  refine ⟨ha, ⟨h2, hb.2⟩, fun u hu z hz => ?_⟩
  rcases List.mem_cons.1 hz with rfl | hz
  · exact h1 u hu
  · exact hab u hu z (List.mem_cons_of_mem _ hz)
theorem HRel.repl {w w' : World} {S : Nat → Prop} {h h' : List Ent} {e e' : Ent} (hr : HRel w S h) (hp : Repl h e e' h') (hlt : ∀ b, S b → b < w.heap.size)
    (hgr : Grw w w' e.blk) (he : ERel w' S e') (hb : ∀ g, e'.blk g → e.blk g ∨ w.heap.size ≤ g) : HRel w' S h' := by
  have hw := hgr.block
  obtain ⟨a, b, rfl, rfl⟩ := hp.split
  have hS : ∀ b, S b → w'.heap[b]? = w.heap[b]? := fun g hg => hw g (hlt g hg) (fun e0 => hr.off e (by simp) g e0 hg)
  have hsep := hr.sep
  have hsep2 := hsep
  rw [List.pairwise_append] at hsep2
  obtain ⟨ha, hbb, hab⟩ := hsep2
  rw [List.pairwise_cons] at hbb
  have apart_e : ∀ z, z ∈ a ∨ z ∈ b → Apart z e := fun z hz => by
    rcases hz with hz | hz
    · exact hab z hz e List.mem_cons_self
    · exact (hbb.1 z hz).symm
  have memz : ∀ z, z ∈ a ∨ z ∈ b → z ∈ a ++ e :: b := fun z hz => by
    rcases hz with hz | hz
    · exact List.mem_append_left _ hz
    · exact List.mem_append_right _ (List.mem_cons_of_mem _ hz)
  have apart' : ∀ z, z ∈ a ∨ z ∈ b → Apart z e' := fun z hz g hg hg' => by
    rcases hb g hg' with h1 | h1
    · exact apart_e z hz g hg h1
    · have := (hr.ent z (memz z hz)).lt g hg; omega
  have keepz : ∀ z, z ∈ a ∨ z ∈ b → ERel w' S z := fun z hz => (hr.ent z (memz z hz)).mono hgr.os hgr.tape hgr.output hgr.size (fun _ h => h) hS (fun g hg => hw g ((hr.ent z (memz z hz)).lt g hg) (fun e0 => apart_e z hz g hg e0))
  refine ⟨fun z hz => ?_, fun z hz g hg => ?_, pairwise_repl hsep (fun z hz => apart' z (.inl hz)) (fun z hz => (apart' z (.inr hz)).symm)⟩
  · rcases List.mem_append.1 hz with hz | hz
    · exact keepz z (.inl hz)
    · rcases List.mem_cons.1 hz with rfl | hz
      · exact he
      · exact keepz z (.inr hz)
  · rcases List.mem_append.1 hz with hz | hz
    · exact hr.off z (memz z (.inl hz)) g hg
    · rcases List.mem_cons.1 hz with rfl | hz
      · rcases hb g hg with h1 | h1
        · exact hr.off e (by simp) g h1
        · intro hs; have := hlt g hs; omega
      · exact hr.off z (memz z (.inr hz)) g hg
theorem HRel.push {w w' : World} {S : Nat → Prop} {h : List Ent} {e' : Ent} (hr : HRel w S h) (hlt : ∀ b, S b → b < w.heap.size)
    (hgr : Grw w w' (fun _ => False)) (he : ERel w' S e') (hb : ∀ g, e'.blk g → w.heap.size ≤ g) : HRel w' S (e' :: h) := by
  have hw := fun b hb => hgr.block b hb id
  have keepz : ∀ z ∈ h, ERel w' S z := fun z hz => (hr.ent z hz).mono hgr.os hgr.tape hgr.output hgr.size (fun _ h => h) (fun b hb => hw b (hlt b hb)) (fun g hg => hw g ((hr.ent z hz).lt g hg))
  refine ⟨fun z hz => ?_, fun z hz g hg => ?_, List.pairwise_cons.2 ⟨fun z hz g hg hg' => ?_, hr.sep⟩⟩
  · rcases List.mem_cons.1 hz with rfl | hz
    · exact he
    · exact keepz z hz
  · rcases List.mem_cons.1 hz with rfl | hz
    · intro hs; have := hlt g hs; have := hb g hg; omega
    · exact hr.off z hz g hg
  · have := (hr.ent z hz).lt g hg'; have := hb g hg; omega
theorem HRel.same {w w' : World} {S S' : Nat → Prop} {h : List Ent} (hr : HRel w S h) (hlt : ∀ b, S b → b < w.heap.size) (hS : ∀ b, S b → S' b) (hS' : ∀ b, S' b → S b ∨ w.heap.size ≤ b)
    (hgr : Grw w w' (fun _ => False)) : HRel w' S' h := by
  have hw := fun b hb => hgr.block b hb id
  refine ⟨fun z hz => (hr.ent z hz).mono hgr.os hgr.tape hgr.output hgr.size hS (fun b hb => hw b (hlt b hb)) (fun g hg => hw g ((hr.ent z hz).lt g hg)), fun z hz g hg hs => ?_, hr.sep⟩
  rcases hS' g hs with h1 | h1
  · exact hr.off z hz g hg h1
  · have := (hr.ent z hz).lt g hg; omega
theorem HRel.freeze {w : World} {S : Nat → Prop} {h h' : List Ent} {e : Ent} (hr : HRel w S h) (hp : Pick h e h') : HRel w (fun b => S b ∨ e.blk b) h' := by
  obtain ⟨a, b, rfl, rfl⟩ := hp.split
  have hsep := hr.sep
  rw [List.pairwise_append] at hsep
  obtain ⟨ha, hbb, hab⟩ := hsep
  rw [List.pairwise_cons] at hbb
  have memz : ∀ z, z ∈ a ++ b → z ∈ a ++ e :: b := fun z hz => by
    rcases List.mem_append.1 hz with hz | hz
    · exact List.mem_append_left _ hz
    · exact List.mem_append_right _ (List.mem_cons_of_mem _ hz)
  have ap : ∀ z, z ∈ a ++ b → Apart z e := fun z hz => by
    rcases List.mem_append.1 hz with hz | hz
    · exact hab z hz e List.mem_cons_self
    · exact (hbb.1 z hz).symm
  refine ⟨fun z hz => (hr.ent z (memz z hz)).mono rfl rfl rfl (Nat.le_refl _) (fun _ h => .inl h) (fun _ _ => rfl) (fun _ _ => rfl), fun z hz g hg hs => ?_, List.pairwise_append.2 ⟨ha, hbb.2, fun x hx y hy => hab x hx y (List.mem_cons_of_mem _ hy)⟩⟩
  rcases hs with hs | hs
  · exact hr.off z (memz z hz) g hg hs
  · exact ap z hz g hg hs
theorem HRel.drop {w : World} {S : Nat → Prop} {h h' : List Ent} {e : Ent} (hr : HRel w S h) (hp : Pick h e h') : HRel w S h' := by
  have hf := hr.freeze hp
  refine ⟨fun z hz => ?_, fun z hz g hg hs => hf.off z hz g hg (.inl hs), hf.sep⟩
  obtain ⟨a, b, rfl, rfl⟩ := hp.split
  refine hr.ent z ?_
  rcases List.mem_append.1 hz with hz | hz
  · exact List.mem_append_left _ hz
  · exact List.mem_append_right _ (List.mem_cons_of_mem _ hz)
theorem HRel.sub {w : World} {S : Nat → Prop} {h h' : List Ent} (hr : HRel w S h) (hp : h'.Sublist h) : HRel w S h' :=
  ⟨fun z hz => hr.ent z (hp.subset hz), fun z hz => hr.off z (hp.subset hz), hr.sep.sublist hp⟩
end Go.Tl
namespace Go.Tl
open Go Go.RowKit
set_option linter.unusedVariables false
abbrev Slots := List (Nat × AV)
def look : Slots → Nat → Option AV
  | [], _ => none
  | (e, x) :: r, d => cond (Nat.beq e d) (some x) (look r d)
def evA (s : Slots) : Operand → Option AV
  | .tmp t => look s t
  | .const v => some (.v v)
  | .func f => some (.v (.func (.func f) #[] #[]))
  | .global _ => none
structure Base where
  w : World
  S : Nat → Prop
  O : Nat → Prop
structure Ext (B : Base) (w : World) (S : Nat → Prop) : Prop where
  os : w.os = B.w.os
  tape : w.tape = B.w.tape
  output : w.output = B.w.output
  size : B.w.heap.size ≤ w.heap.size
  keep : ∀ b, b < B.w.heap.size → ¬ B.O b → w.heap[b]? = B.w.heap[b]?
  stab : ∀ b, B.S b → S b
  new : ∀ b, S b → B.S b ∨ B.w.heap.size ≤ b ∨ B.O b
def SRel (w : World) (S : Nat → Prop) (s : Slots) (tmps : Array Value) : Prop := ∀ d x, look s d = some x → ∃ v, tmps[d]? = some v ∧ VRel w S x v
def markD (r : Nat) : Deferred := { target := .collected r, args := #[] }
def DRel (B : Base) (w : World) (S : Nat → Prop) (h : List Ent) (ds : List Deferred) : Prop :=
  ∃ rs : List Nat, ds = rs.map markD ∧ rs.Nodup ∧ ∀ r ∈ rs, w.heap[r]? = some (.deferred (some [])) ∧ ¬ S r ∧ (B.O r ∨ B.w.heap.size ≤ r) ∧ ∀ e ∈ h, ¬ e.blk r
theorem DRel.nil {B : Base} {w : World} {S : Nat → Prop} {h : List Ent} : DRel B w S h [] := ⟨[], rfl, List.nodup_nil, fun _ h => (by cases h)⟩
theorem DRel.keep {B : Base} {w w' : World} {S S' : Nat → Prop} {h h' : List Ent} {ds : List Deferred} (H : DRel B w S h ds) (hk : ∀ r, r < w.heap.size → (∀ e ∈ h, ¬ e.blk r) → w'.heap[r]? = w.heap[r]?)
    (hS : ∀ r, S' r → S r ∨ w.heap.size ≤ r ∨ ∃ e ∈ h, e.blk r) (hh : ∀ e ∈ h', ∀ r, e.blk r → (∃ e0 ∈ h, e0.blk r) ∨ w.heap.size ≤ r) : DRel B w' S' h' ds := by
  obtain ⟨rs, rfl, hn, hr⟩ := H
  refine ⟨rs, rfl, hn, fun r hrs => ?_⟩
  obtain ⟨h1, h2, h3, h4⟩ := hr r hrs
  have hlt : r < w.heap.size := (Array.getElem?_eq_some_iff.1 h1).1
  refine ⟨(hk r hlt h4).trans h1, fun hs => ?_, h3, fun e he hb => ?_⟩
  · rcases hS r hs with h5 | h5 | ⟨e, he, h5⟩
    · exact h2 h5
    · omega
    · exact h4 e he h5
  · rcases hh e he r hb with ⟨e0, he0, h5⟩ | h5
    · exact h4 e0 he0 h5
    · omega
structure Sim (B : Base) (N : Nat) (w : World) (S : Nat → Prop) (s : Slots) (h : List Ent) (a : Act) : Prop where
  ext : Ext B w S
  defs : DRel B w S h a.defers
  size : a.tmps.size = N
  slots : SRel w S s a.tmps
  lt : ∀ b, S b → b < w.heap.size
  heap : HRel w S h
  live : ∀ e ∈ h, ∀ g, e.blk g → B.O g ∨ B.w.heap.size ≤ g
  off : ∀ b, B.S b → ¬ B.O b
structure Upd (w : World) (S : Nat → Prop) (w' : World) (S' : Nat → Prop) (md : Nat → Prop) : Prop where
  size : w.heap.size ≤ w'.heap.size
  keep : ∀ b, b < w.heap.size → ¬ md b → w'.heap[b]? = w.heap[b]?
  stab : ∀ b, S b → S' b
theorem Upd.refl {w : World} {S md : Nat → Prop} : Upd w S w S md := ⟨Nat.le_refl _, fun _ _ _ => rfl, fun _ h => h⟩
theorem SRel.eval {w : World} {S : Nat → Prop} {s : Slots} {a : Act} (h : SRel w S s a.tmps) {x : Operand} {y : AV} (hx : evA s x = some y) : VRel w S y (a.eval x) := by
  cases x with
  | tmp t =>
    obtain ⟨v, hv, hr⟩ := h t y hx
    simp [Act.eval, hv]; exact hr
  | const v => simp [evA] at hx; subst hx; exact .v _
  | func f => simp [evA] at hx; subst hx; exact .v _
  | global g => simp [evA] at hx
theorem SRel.evals {w : World} {S : Nat → Prop} {s : Slots} {a : Act} (h : SRel w S s a.tmps) {xs : List Operand} {ys : List AV} (hx : xs.map (evA s) = ys.map some) : VRels w S ys (xs.map a.eval) := by
  induction xs generalizing ys with
  | nil => cases ys with
    | nil => exact .nil
    | cons y ys => simp at hx
  | cons x xs ih => cases ys with
    | nil => simp at hx
    | cons y ys =>
      simp at hx
      exact .cons (h.eval hx.1) (ih hx.2)
theorem SRel.mono {w w' : World} {S S' : Nat → Prop} {s : Slots} {t : Array Value} (h : SRel w S s t) (hS : ∀ b, S b → S' b) (hw : ∀ b, S b → w'.heap[b]? = w.heap[b]?) : SRel w' S' s t := fun d x hx =>
  let ⟨v, hv, hr⟩ := h d x hx
  ⟨v, hv, hr.mono hS hw⟩
theorem SRel.put {w : World} {S : Nat → Prop} {s : Slots} {a : Act} (h : SRel w S s a.tmps) {d : Nat} {x : AV} {v : Value} (hx : VRel w S x v) (hd : d < a.tmps.size) : SRel w S ((d, x) :: s) (a.put (some d) v).tmps := fun e y hy => by
  simp only [Act.put]
  by_cases he : d = e
  · subst he
    simp [look, Nat.beq_refl] at hy
    subst hy
    exact ⟨v, by simp [hd], hx⟩
  · have hb : Nat.beq d e = false := by
      cases hq : Nat.beq d e with
      | false => rfl
      | true => exact absurd (Nat.eq_of_beq_eq_true hq) he
    simp only [look, hb, cond_false] at hy
    obtain ⟨u, hu, hr⟩ := h e y hy
    exact ⟨u, by rw [Array.getElem?_setIfInBounds_ne he]; exact hu, hr⟩
section
variable {B : Base} {N : Nat} {w : World} {S : Nat → Prop} {s : Slots} {h : List Ent} {a : Act}
theorem Ext.step {w' : World} {S' : Nat → Prop} {md : Nat → Prop} (e : Ext B w S) (hos : w'.os = w.os) (ht : w'.tape = w.tape) (ho : w'.output = w.output) (u : Upd w S w' S' md)
    (hm : ∀ b, md b → B.O b ∨ B.w.heap.size ≤ b) (hn : ∀ b, S' b → S b ∨ w.heap.size ≤ b ∨ md b) : Ext B w' S' :=
  ⟨hos.trans e.os, ht.trans e.tape, ho.trans e.output, Nat.le_trans e.size u.size, fun b hb hO => (u.keep b (Nat.lt_of_lt_of_le hb e.size) (fun hmd => by
      rcases hm b hmd with h1 | h1
      · exact hO h1
      · omega)).trans (e.keep b hb hO), fun b hb => u.stab b (e.stab b hb), fun b hb => by
      rcases hn b hb with h1 | h1 | h1
      · exact e.new b h1
      · exact .inr (.inl (Nat.le_trans e.size h1))
      · rcases hm b h1 with h2 | h2
        · exact .inr (.inr h2)
        · exact .inr (.inl h2)⟩
theorem Sim.put (H : Sim B N w S s h a) {d : Nat} {x : AV} {v : Value} (hx : VRel w S x v) (hd : d < N) : Sim B N w S ((d, x) :: s) h (a.put (some d) v) :=
  ⟨H.ext, H.defs, by simp [Act.put, H.size], H.slots.put hx (by rw [H.size]; exact hd), H.lt, H.heap, H.live, H.off⟩
theorem Sim.putNone (H : Sim B N w S s h a) {v : Value} : Sim B N w S s h (a.put none v) := H
theorem Sim.grow (H : Sim B N w S s h a) {w' : World} (hg : Grw w w' (fun _ => False)) : Sim B N w' S s h a :=
  have hw := fun b hb => hg.block b hb id
  ⟨H.ext.step (md := fun _ => False) hg.os hg.tape hg.output ⟨hg.size, fun b hb _ => hw b hb, fun _ h => h⟩ (fun _ h => h.elim) (fun _ h => .inl h),
    H.defs.keep (fun r hr _ => hw r hr) (fun r hr => .inl hr) (fun e he r hb => .inl ⟨e, he, hb⟩), H.size, H.slots.mono (fun _ h => h) (fun b hb => hw b (H.lt b hb)),
    fun b hb => Nat.lt_of_lt_of_le (H.lt b hb) hg.size, H.heap.same H.lt (fun _ h => h) (fun _ h => .inl h) hg, H.live, H.off⟩
theorem Sim.drew (H : Sim B N w S s h a) : Sim B N w.drew S s h a := H.grow ⟨rfl, rfl, rfl, Nat.le_refl _, fun _ _ _ => rfl⟩
theorem Sim.push (H : Sim B N w S s h a) {w' : World} {e : Ent} (hg : Grw w w' (fun _ => False)) (he : ERel w' S e) (hb : ∀ g, e.blk g → w.heap.size ≤ g) : Sim B N w' S s (e :: h) a :=
  let H' := H.grow hg
  ⟨H'.ext, H.defs.keep (fun r hr _ => hg.block r hr id) (fun r hr => .inl hr) (fun z hz r hr => by
      rcases List.mem_cons.1 hz with rfl | hz
      · exact .inr (hb r hr)
      · exact .inl ⟨z, hz, hr⟩), H'.size, H'.slots, H'.lt, H.heap.push H.lt hg he hb, fun z hz g hg => by
    rcases List.mem_cons.1 hz with rfl | hz
    · exact .inr (Nat.le_trans H.ext.size (hb g hg))
    · exact H.live z hz g hg, H.off⟩
theorem Sim.repl (H : Sim B N w S s h a) {w' : World} {e e' : Ent} {h' : List Ent} (hp : Repl h e e' h') (hg : Grw w w' e.blk)
    (he : ERel w' S e') (hb : ∀ g, e'.blk g → e.blk g ∨ w.heap.size ≤ g) : Sim B N w' S s h' a := by
  have hmem : e ∈ h := by obtain ⟨x, y, rfl, _⟩ := hp.split; simp
  have hw := hg.block
  refine ⟨H.ext.step (md := e.blk) hg.os hg.tape hg.output ⟨hg.size, hw, fun _ h => h⟩ (fun b hb => H.live e hmem b hb) (fun _ h => .inl h), H.defs.keep (fun r hr hn => hw r hr (hn e hmem)) (fun r hr => .inl hr) (fun z hz r hr => ?_), H.size,
    H.slots.mono (fun _ h => h) (fun b hb => hw b (H.lt b hb) (fun e0 => H.heap.off e hmem b e0 hb)), fun b hb => Nat.lt_of_lt_of_le (H.lt b hb) hg.size, H.heap.repl hp H.lt hg he hb, fun z hz g hzg => ?_, H.off⟩
  · obtain ⟨x, y, rfl, rfl⟩ := hp.split
    rcases List.mem_append.1 hz with hz | hz
    · exact .inl ⟨z, List.mem_append_left _ hz, hr⟩
    · rcases List.mem_cons.1 hz with rfl | hz
      · rcases hb r hr with h1 | h1
        · exact .inl ⟨e, by simp, h1⟩
        · exact .inr h1
      · exact .inl ⟨z, List.mem_append_right _ (List.mem_cons_of_mem _ hz), hr⟩
  · obtain ⟨x, y, rfl, rfl⟩ := hp.split
    rcases List.mem_append.1 hz with hz | hz
    · exact H.live z (List.mem_append_left _ hz) g hzg
    · rcases List.mem_cons.1 hz with rfl | hz
      · rcases hb g hzg with h1 | h1
        · exact H.live e (by simp) g h1
        · exact .inr (Nat.le_trans H.ext.size h1)
      · exact H.live z (List.mem_append_right _ (List.mem_cons_of_mem _ hz)) g hzg
theorem Sim.freeze (H : Sim B N w S s h a) {e : Ent} {h' : List Ent} (hp : Pick h e h') : Sim B N w (fun b => S b ∨ e.blk b) s h' a := by
  have hmem : e ∈ h := by obtain ⟨x, y, rfl, _⟩ := hp.split; simp
  have hsub : ∀ z ∈ h', z ∈ h := fun z hz => by
    obtain ⟨x, y, rfl, rfl⟩ := hp.split
    rcases List.mem_append.1 hz with hz | hz
    · exact List.mem_append_left _ hz
    · exact List.mem_append_right _ (List.mem_cons_of_mem _ hz)
  refine ⟨H.ext.step (md := e.blk) rfl rfl rfl ⟨Nat.le_refl _, fun _ _ _ => rfl, fun _ h => .inl h⟩ (fun b hb => H.live e hmem b hb) (fun b hb => ?_), H.defs.keep (fun r hr hn => rfl) (fun r hr => ?_) (fun z hz r hr => .inl ⟨z, hsub z hz, hr⟩), H.size,
    H.slots.mono (fun _ h => .inl h) (fun _ _ => rfl), fun b hb => ?_, H.heap.freeze hp, fun z hz g hzg => H.live z (hsub z hz) g hzg, H.off⟩
  · rcases hb with h1 | h1
    · exact .inl h1
    · exact .inr (.inr h1)
  · rcases hr with h1 | h1
    · exact .inl h1
    · exact .inr (.inr ⟨e, hmem, h1⟩)
  · rcases hb with h1 | h1
    · exact H.lt b h1
    · exact (H.heap.ent e hmem).lt b h1
end
section
variable {P : Program}
def PV (P : Program) (o : Oper) (s : Slots) (y : AV) : Prop := ∀ (w : World) (S : Nat → Prop) (a : Act), SRel w S s a.tmps → ∃ v, (∀ w', (execOp a.eval o).run P w' = .ok (.value v) w') ∧ VRel w S y v
def LV (P : Program) (o : Oper) (s : Slots) (h : List Ent) (e : Option Ent) (y : AV) : Prop := ∀ (w : World) (S : Nat → Prop) (a : Act), SRel w S s a.tmps → HRel w S h →
  ∃ v b, (∀ w', w'.heap[b]? = w.heap[b]? → (execOp a.eval o).run P w' = .ok (.value v) w') ∧ VRel w S y v ∧ (S b ∨ ∃ e0, e = some e0 ∧ e0 ∈ h ∧ e0.blk b)
theorem pv_move {o : Oper} {s : Slots} {x : Operand} {y : AV} (ho : o.op = .move x) (hx : evA s x = some y) : PV P o s y := fun w S a hs =>
  ⟨_, fun w' => by simp only [execOp, ho]; rfl, hs.eval hx⟩
theorem pv_assign {o : Oper} {s : Slots} {x : Operand} {y : AV} (ho : o.op = .assign x) (hx : evA s x = some y) : PV P o s y := fun w S a hs =>
  ⟨_, fun w' => by simp only [execOp, ho]; rfl, hs.eval hx⟩
theorem SRel.lit {w : World} {S : Nat → Prop} {s : Slots} {a : Act} (h : SRel w S s a.tmps) {x : Operand} {v : Value} (hx : evA s x = some (.v v)) : a.eval x = v := (h.eval hx).lit_inv
theorem pv_pick {o : Oper} {s : Slots} {c x z : Operand} {b : Bool} {y : AV} (ho : o.op = .pick c x z) (hc : evA s c = some (.v (.bool b))) (hx : (if b then evA s x else evA s z) = some y) : PV P o s y := fun w S a hs => by
  cases b
  · exact ⟨_, fun w' => by simp only [execOp, ho, hs.lit hc]; rfl, hs.eval (by simpa using hx)⟩
  · exact ⟨_, fun w' => by simp only [execOp, ho, hs.lit hc]; rfl, hs.eval (by simpa using hx)⟩
def f2 {α : Type} : List (Nat × α) → Nat → Option α
  | [], _ => none
  | (a, x) :: r, t => cond (Nat.beq a t) (some x) (f2 r t)
def f3 {α : Type} : List (Nat × Nat × α) → Nat → Nat → Option α
  | [], _, _ => none
  | (a, b, x) :: r, t, i => cond (Nat.beq a t && Nat.beq b i) (some x) (f3 r t i)
theorem f2_mem {α : Type} {l : List (Nat × α)} {t : Nat} {x : α} (h : f2 l t = some x) : (t, x) ∈ l := by
  induction l with
  | nil => simp [f2] at h
  | cons p r ih =>
    obtain ⟨a, y⟩ := p
    simp only [f2] at h
    cases hb : Nat.beq a t with
    | true => rw [hb] at h; simp at h; subst h; rw [Nat.eq_of_beq_eq_true hb]; simp
    | false => rw [hb] at h; exact List.mem_cons_of_mem _ (ih h)
theorem f3_mem {α : Type} {l : List (Nat × Nat × α)} {t i : Nat} {x : α} (h : f3 l t i = some x) : (t, i, x) ∈ l := by
  induction l with
  | nil => simp [f3] at h
  | cons p r ih =>
    obtain ⟨a, b, y⟩ := p
    simp only [f3] at h
    cases hb : (Nat.beq a t && Nat.beq b i) with
    | true =>
      rw [hb] at h; simp at h; subst h
      simp only [Bool.and_eq_true] at hb
      rw [Nat.eq_of_beq_eq_true hb.1, Nat.eq_of_beq_eq_true hb.2]; simp
    | false => rw [hb] at h; exact List.mem_cons_of_mem _ (ih h)
def fldB (P : Program) (e : Nat × Nat × Nat) : Bool :=
  match P.underlying e.1 with
  | some (.struct fs) => match fs[e.2.1]? with
    | some f => f.offset == e.2.2 && (match P.info? f.type with | some j => j.size != 0 | none => false)
    | none => false
  | _ => false
def aggB : TypeDesc → Bool
  | .struct _ | .array _ _ => true
  | _ => false
def sizB (P : Program) (e : Nat × Nat × Bool) : Bool :=
  (match P.info? e.1 with | some j => j.size == e.2.1 && j.size != 0 | none => false) && (match P.underlying e.1 with | some d => aggB d == e.2.2 | none => false)
def elmB (P : Program) (e : Nat × Nat × Nat × Nat) : Bool :=
  (match P.underlying e.1 with | some (.slice t) => t == e.2.1 | _ => false) && (match P.info? e.2.1 with | some j => j.size == e.2.2.1 && j.bytes == e.2.2.2 && j.size != 0 | none => false)
def arrB (P : Program) (e : Nat × Nat × Nat × Nat) : Bool :=
  (match P.underlying e.1 with | some (.array n t) => n == e.2.1 && t == e.2.2.1 | _ => false) && (match P.info? e.2.2.1 with | some j => j.size == e.2.2.2 && j.size != 0 | none => false)
def zOk (P : Program) : List (Nat × Value) → Prop
  | [] => True
  | (t, z) :: r => (P.info? t).map (·.zero) = some (some z) ∧ zOk P r
def fnB (P : Program) (f : Nat) : Bool := match P.funcs[f]? with | some fn => fn.name != "runtime.NumGoroutine" && fn.body.isSome | none => false
def plcB (P : Program) (e : Nat × List (Nat × Nat)) : Bool :=
  match P.underlying e.1 with
  | some (.struct fs) => (fs.toList.map fun f => (f.offset, (P.info? f.type).map (·.size))) == e.2.map fun x => (x.1, some x.2)
  | _ => false
structure TT (P : Program) where
  fns : List Nat
  fld : List (Nat × Nat × Nat)
  siz : List (Nat × Nat × Bool)
  elm : List (Nat × Nat × Nat × Nat)
  arr : List (Nat × Nat × Nat × Nat)
  zer : List (Nat × Value)
  plc : List (Nat × List (Nat × Nat))
  fldOk : fld.all (fldB P) = true
  sizOk : siz.all (sizB P) = true
  elmOk : elm.all (elmB P) = true
  arrOk : arr.all (arrB P) = true
  plcOk : plc.all (plcB P) = true
  zerOk : zOk P zer
  fnsOk : fns.all (fnB P) = true
  mixed : P.follows .mixedOrders = true
section
variable (T : TT P)
theorem TT.fld_at {t i o : Nat} (h : f3 T.fld t i = some o) : ∃ fs f j, P.underlying t = some (.struct fs) ∧ fs[i]? = some f ∧ f.offset = o ∧ P.info? f.type = some j ∧ j.size ≠ 0 := by
  have hb := List.all_eq_true.1 T.fldOk _ (f3_mem h)
  simp only [fldB] at hb
  split at hb
  · rename_i fs hu
    split at hb
    · rename_i f hf
      simp only [Bool.and_eq_true, beq_iff_eq] at hb
      obtain ⟨h1, h2⟩ := hb
      split at h2
      · rename_i j hj
        exact ⟨fs, f, j, hu, hf, h1, hj, by simpa using h2⟩
      · cases h2
    · cases hb
  · cases hb
theorem TT.siz_at {t n : Nat} {b : Bool} (h : f2 T.siz t = some (n, b)) : ∃ j d, P.info? t = some j ∧ j.size = n ∧ n ≠ 0 ∧ P.underlying t = some d ∧ aggB d = b := by
  have hb := List.all_eq_true.1 T.sizOk _ (f2_mem h)
  simp only [sizB, Bool.and_eq_true] at hb
  obtain ⟨h1, h2⟩ := hb
  split at h1
  · rename_i j hj
    split at h2
    · rename_i d hd
      simp only [Bool.and_eq_true, beq_iff_eq, bne_iff_ne] at h1 h2
      exact ⟨j, d, hj, h1.1, fun e => h1.2 (h1.1.trans e), hd, h2⟩
    · cases h2
  · cases h1
theorem TT.elm_at {t e n b : Nat} (h : f2 T.elm t = some (e, n, b)) : ∃ j, P.underlying t = some (.slice e) ∧ P.info? e = some j ∧ j.size = n ∧ j.bytes = b ∧ n ≠ 0 := by
  have hb := List.all_eq_true.1 T.elmOk _ (f2_mem h)
  simp only [elmB, Bool.and_eq_true] at hb
  obtain ⟨h1, h2⟩ := hb
  split at h1
  · rename_i u hu
    split at h2
    · rename_i j hj
      simp only [Bool.and_eq_true, beq_iff_eq, bne_iff_ne] at h1 h2
      subst h1
      exact ⟨j, hu, hj, h2.1.1, h2.1.2, fun e => h2.2 (h2.1.1.trans e)⟩
    · cases h2
  · cases h1
theorem TT.arr_at {t n e m : Nat} (h : f2 T.arr t = some (n, e, m)) : ∃ j, P.underlying t = some (.array n e) ∧ P.info? e = some j ∧ j.size = m ∧ m ≠ 0 := by
  have hb := List.all_eq_true.1 T.arrOk _ (f2_mem h)
  simp only [arrB, Bool.and_eq_true] at hb
  obtain ⟨h1, h2⟩ := hb
  split at h1
  · rename_i k u hu
    split at h2
    · rename_i j hj
      simp only [Bool.and_eq_true, beq_iff_eq, bne_iff_ne] at h1 h2
      obtain ⟨h3, h4⟩ := h1
      subst h3; subst h4
      exact ⟨j, hu, hj, h2.1, fun e => h2.2 (h2.1.trans e)⟩
    · cases h2
  · cases h1
theorem zOk_at {l : List (Nat × Value)} (hl : zOk P l) {t : Nat} {z : Value} (h : f2 l t = some z) : (P.info? t).map (·.zero) = some (some z) := by
  induction l with
  | nil => simp [f2] at h
  | cons p r ih =>
    obtain ⟨a, y⟩ := p
    simp only [f2] at h
    cases hb : Nat.beq a t with
    | true => rw [hb] at h; simp at h; subst h; rw [← Nat.eq_of_beq_eq_true hb]; exact hl.1
    | false => rw [hb] at h; exact ih hl.2 h
end
theorem run_isAgg' {t : TypeId} {d : TypeDesc} (h : P.underlying t = some d) (w : World) : (isAgg t).run P w = .ok (aggB d) w := by
  unfold isAgg
  simp only [Sem.run_bind, run_underlying h]
  cases d <;> simp [aggB]
theorem run_sizeOf' {t : TypeId} {i : TypeInfo} (h : P.info? t = some i) (w : World) : (sizeOf t).run P w = .ok i.size w := by
  simp [sizeOf, typeInfo, h]
end
end Go.Tl
namespace Go.Tl
open Go Go.RowKit
set_option linter.unusedVariables false
set_option linter.unusedSimpArgs false
section
variable {P : Program} {o : Oper} {s : Slots} {h : List Ent}
theorem pv_bin {op : BinOp} {t t' : TypeId} {x z : Operand} {u v r : Value} (ho : o.op = .binOp op t x z t') (hx : evA s x = some (.v u)) (hz : evA s z = some (.v v))
    (hr : ∀ w, (do eqGuard op t x z u v; binOp op t u v : Sem Value).run P w = .ok r w) : PV P o s (.v r) := fun w S a hs =>
  ⟨r, fun w' => by
    have h1 := hr w'
    simp only [execOp, ho, hs.lit hx, hs.lit hz]
    rw [Sem.run_bind, h1]
    rfl, .v _⟩
theorem beq_dec (a b : Int) : (a == b) = decide (a = b) := by by_cases h : a = b <;> simp [h]
section
variable {t t' : TypeId} {x z : Operand} {k : IntKind} {a b c : Int}
theorem pv_add (ho : o.op = .binOp .add t x z t') (hx : evA s x = some (.v (.int k a))) (hz : evA s z = some (.v (.int k b))) (hc : k.wrap (a + b) = c) : PV P o s (.v (.int k c)) :=
  pv_bin ho hx hz (fun w => by subst hc; simp [go_sem])
theorem pv_sub (ho : o.op = .binOp .sub t x z t') (hx : evA s x = some (.v (.int k a))) (hz : evA s z = some (.v (.int k b))) (hc : k.wrap (a - b) = c) : PV P o s (.v (.int k c)) :=
  pv_bin ho hx hz (fun w => by subst hc; simp [go_sem])
theorem pv_mul (ho : o.op = .binOp .mul t x z t') (hx : evA s x = some (.v (.int k a))) (hz : evA s z = some (.v (.int k b))) (hc : k.wrap (a * b) = c) : PV P o s (.v (.int k c)) :=
  pv_bin ho hx hz (fun w => by subst hc; simp [go_sem])
theorem pv_quo (ho : o.op = .binOp .quo t x z t') (hx : evA s x = some (.v (.int k a))) (hz : evA s z = some (.v (.int k b))) (h0 : b ≠ 0) (hc : k.wrap (a.tdiv b) = c) : PV P o s (.v (.int k c)) :=
  pv_bin ho hx hz (fun w => by subst hc; simp [go_sem, h0])
theorem pv_lss (ho : o.op = .binOp .lss t x z t') (hx : evA s x = some (.v (.int k a))) (hz : evA s z = some (.v (.int k b))) : PV P o s (.v (.bool (decide (a < b)))) :=
  pv_bin ho hx hz (fun w => by simp [go_sem])
theorem pv_gtr (ho : o.op = .binOp .gtr t x z t') (hx : evA s x = some (.v (.int k a))) (hz : evA s z = some (.v (.int k b))) : PV P o s (.v (.bool (decide (b < a)))) :=
  pv_bin ho hx hz (fun w => by simp [go_sem])
theorem pv_eql (ho : o.op = .binOp .eql t x z t') (hx : evA s x = some (.v (.int k a))) (hz : evA s z = some (.v (.int k b))) : PV P o s (.v (.bool (decide (a = b)))) :=
  pv_bin ho hx hz (fun w => by simp only [go_sem]; simp; exact beq_dec _ _)
theorem pv_neq (ho : o.op = .binOp .neq t x z t') (hx : evA s x = some (.v (.int k a))) (hz : evA s z = some (.v (.int k b))) : PV P o s (.v (.bool (decide (a ≠ b)))) :=
  pv_bin ho hx hz (fun w => by simp only [go_sem]; simp [bne, beq_dec])
end
theorem pv_un {op : UnOp} {t : TypeId} {x : Operand} {u r : Value} (ho : o.op = .unOp op t x) (hx : evA s x = some (.v u)) (hr : ∀ w, (Op.unary op u).run P w = .ok r w) : PV P o s (.v r) := fun w S a hs =>
  ⟨r, fun w' => by simp [execOp, ho, hs.lit hx, hr], .v _⟩
theorem pv_not {t : TypeId} {x : Operand} {b : Bool} (ho : o.op = .unOp .not t x) (hx : evA s x = some (.v (.bool b))) : PV P o s (.v (.bool (!b))) := pv_un ho hx (fun w => by simp [Op.unary])
theorem pv_nilCheck {x : Operand} {g k : Nat} (ho : o.op = .nilCheck x) (hx : evA s x = some (.v (.pointer (some ⟨g, k, none⟩)))) : PV P o s (.v (.pointer (some ⟨g, k, none⟩))) := fun w S a hs =>
  ⟨_, fun w' => by simp [execOp, ho, hs.lit hx], .v _⟩
theorem run_fieldAt' (T : TT P) {t i off : Nat} (hf : f3 T.fld t i = some off) (b k : Nat) (w : World) : (Instr.fieldAt t (.pointer (some ⟨b, k, none⟩)) i).run P w = .ok (.pointer (some ⟨b, k + off, none⟩)) w := by
  obtain ⟨fs, f, j, hu, hfi, hoff, hj, hne⟩ := T.fld_at hf
  simp [Instr.fieldAt, run_underlying hu, hfi, Instr.sureAddr, fieldPlace, run_sizeOf' hj, hne, hoff, Addr.add_lit]
theorem pv_fieldAddr (T : TT P) {t : TypeId} {x : Operand} {i g k off : Nat} (ho : o.op = .fieldAddr t x i) (hx : evA s x = some (.v (.pointer (some ⟨g, k, none⟩)))) (hf : f3 T.fld t i = some off) : PV P o s (.v (.pointer (some ⟨g, k + off, none⟩))) := fun w S a hs =>
  ⟨_, fun w' => by simp [execOp, ho, hs.lit hx, run_fieldAt' T hf], .v _⟩
theorem pv_fieldAddr_elt (T : TT P) {t : TypeId} {x : Operand} {i sz n k off off' : Nat} {f : Nat → List Tr} (ho : o.op = .fieldAddr t x i) (hx : evA s x = some (.elt sz n f k off')) (hf : f3 T.fld t i = some off) : PV P o s (.elt sz n f k (off' + off)) := fun w S a hs => by
  have h1 := hs.eval hx
  generalize hv : a.eval x = v at *
  cases h1 with
  | @elt _ _ _ _ _ _ b off0 c h hk => exact ⟨_, fun w' => by simp [execOp, ho, hv, run_fieldAt' T hf]; rfl, by rw [Nat.add_assoc]; exact .elt h hk⟩
theorem pv_fieldAddr_rp (T : TT P) {t : TypeId} {x : Operand} {i sz k off off' : Nat} {v : Value} (ho : o.op = .fieldAddr t x i) (hx : evA s x = some (.rp v sz k off')) (hf : f3 T.fld t i = some off) : PV P o s (.rp v sz k (off' + off)) := fun w S a hs => by
  have h1 := hs.eval hx
  generalize hv : a.eval x = v' at *
  cases h1 with
  | @rp g n cap => exact ⟨_, fun w' => by simp [execOp, ho, hv, run_fieldAt' T hf]; rfl, by rw [Nat.add_assoc]; exact .rp⟩
theorem pv_indexAddr_t (T : TT P) {t e sz bt n : Nat} {x y : Operand} {cp : Bool} {f : Nat → List Tr} {k : IntKind} {i : Int} (ho : o.op = .indexAddr t x y) (hx : evA s x = some (.t (.sl cp sz n f))) (hy : evA s y = some (.v (.int k i)))
    (ht : f2 T.elm t = some (e, sz, bt)) (h0 : 0 ≤ i) (hn : i < n) : PV P o s (.elt sz n f i.toNat 0) := fun w S a hs => by
  obtain ⟨j, hu, hj, hsz, _, hne⟩ := T.elm_at ht
  have h1 := hs.eval hx
  have h2 := hs.lit hy
  generalize hv : a.eval x = v at *
  cases h1 with
  | t h =>
    have h' := h
    cases h with
    | @sl _ _ _ _ ad c val hc hl hh ih =>
      have hi : i.toNat < n := by omega
      obtain ⟨b, off, rfl, hb, hcell⟩ := hh i.toNat hi
      refine ⟨.pointer (some ⟨b, off + i.toNat * sz + 0, none⟩), fun w' => ?_, .elt h' hi⟩
      simp [execOp, ho, hv, h2, Instr.indexAt, asIntOf, run_underlying hu, run_sizeOf' hj, h0, hn, hsz, Addr.add_lit]
theorem pv_indexAddr_own (T : TT P) {t e sz bt g n c : Nat} {x y : Operand} {k : IntKind} {i : Int} (ho : o.op = .indexAddr t x y) (hx : evA s x = some (.v (.slice (some ⟨g, 0, none⟩) n c))) (hy : evA s y = some (.v (.int k i)))
    (ht : f2 T.elm t = some (e, sz, bt)) (h0 : 0 ≤ i) (hn : i < n) : PV P o s (.rp (.slice (some ⟨g, 0, none⟩) n c) sz i.toNat 0) := fun w S a hs => by
  obtain ⟨j, hu, hj, hsz, _, hne⟩ := T.elm_at ht
  have h1 := hs.lit hx
  have h2 := hs.lit hy
  refine ⟨.pointer (some ⟨g, i.toNat * sz + 0, none⟩), fun w' => ?_, .rp⟩
  simp [execOp, ho, h1, h2, Instr.indexAt, asIntOf, run_underlying hu, run_sizeOf' hj, h0, hn, hsz, Addr.add_lit]
theorem pv_indexAddr_arr (T : TT P) {t n e m g off : Nat} {x y : Operand} {k : IntKind} {i : Int} (ho : o.op = .indexAddr t x y) (hx : evA s x = some (.v (.pointer (some ⟨g, off, none⟩)))) (hy : evA s y = some (.v (.int k i)))
    (ht : f2 T.arr t = some (n, e, m)) (h0 : 0 ≤ i) (hn : i < n) : PV P o s (.v (.pointer (some ⟨g, off + i.toNat * m, none⟩))) := fun w S a hs => by
  obtain ⟨j, hu, hj, hsz, hne⟩ := T.arr_at ht
  have h1 := hs.lit hx
  have h2 := hs.lit hy
  refine ⟨_, fun w' => ?_, .v _⟩
  simp [execOp, ho, h1, h2, Instr.indexAt, asIntOf, run_underlying hu, run_sizeOf' hj, h0, hn, hsz, Addr.add_lit, Instr.sureAddr]
theorem pv_len_t (T : TT P) {t e sz bt n : Nat} {x : Operand} {cp : Bool} {sz' : Nat} {f : Nat → List Tr} (ho : o.op = .call { callee := .builtin .len, args := #[x], argTypes := #[t] }) (hx : evA s x = some (.t (.sl cp sz' n f)))
    (ht : f2 T.elm t = some (e, sz, bt)) : PV P o s (.v (.int .i64 n)) := fun w S a hs => by
  obtain ⟨j, hu, _⟩ := T.elm_at ht
  have h1 := hs.eval hx
  generalize hv : a.eval x = v at *
  cases h1 with
  | t h =>
    cases h with
    | sl => exact ⟨_, fun w' => by simp [execOp, ho, resolve, invoke, builtin, Builtin.len_, hv, run_underlying hu, goInt], .v _⟩
theorem pv_len_v (T : TT P) {t e sz bt n c : Nat} {ad : Option Addr} {x : Operand} (ho : o.op = .call { callee := .builtin .len, args := #[x], argTypes := #[t] }) (hx : evA s x = some (.v (.slice ad n c)))
    (ht : f2 T.elm t = some (e, sz, bt)) : PV P o s (.v (.int .i64 n)) := fun w S a hs => by
  obtain ⟨j, hu, _⟩ := T.elm_at ht
  exact ⟨_, fun w' => by simp [execOp, ho, resolve, invoke, builtin, Builtin.len_, hs.lit hx, run_underlying hu, goInt], .v _⟩
theorem pv_max2 {x y : Operand} {t1 t2 : TypeId} {k : IntKind} {a b : Int} (ho : o.op = .call { callee := .builtin .max, args := #[x, y], argTypes := #[t1, t2] }) (hx : evA s x = some (.v (.int k a))) (hy : evA s y = some (.v (.int k b))) :
    PV P o s (.v (.int k (max a b))) := fun w S a' hs =>
  ⟨_, fun w' => by
    have e : (if a < b then b else a) = max a b := by rw [Int.max_def]; split <;> split <;> omega
    simp [execOp, ho, resolve, invoke, builtin, Builtin.max_, Builtin.max2, hs.lit hx, hs.lit hy, e], .v _⟩
theorem pv_extract {x : Operand} {i : Nat} {vs : List AV} {y : AV} (ho : o.op = .extract x i) (hx : evA s x = some (.tup vs)) (hy : vs[i]? = some y) : PV P o s y := fun w S a hs => by
  have h1 := hs.eval hx
  generalize hv : a.eval x = v at *
  cases h1 with
  | tup hl hh =>
    obtain ⟨u, hu, hr⟩ := VRels.get ⟨hl, hh⟩ hy
    exact ⟨u, fun w' => by simp [execOp, ho, hv, Instr.extract, hu], hr⟩
def AV.ofTr : Tr → AV
  | .sc u => .v u
  | .sl cp sz n f => .t (.sl cp sz n f)
theorem TRel.av {w : World} {S : Nat → Prop} {x : Tr} {v : Value} (h : TRel w S x v) : VRel w S (AV.ofTr x) v := by
  cases x with
  | sc u => cases h; exact .v _
  | sl cp sz n f => exact .t h
theorem run_loadCells' {w : World} {b o : Nat} {vs : List Value} (hc : ∀ j v, vs[j]? = some v → w.cell? ⟨b, o + j, none⟩ = some v) : (loadCells ⟨b, o, none⟩ vs.length).run P w = .ok vs.toArray w := by
  have key : ∀ (n i : Nat) (acc : Array Value), n + i = vs.length → acc = (vs.take i).toArray → (loadCellsFrom ⟨b, o, none⟩ i n acc).run P w = .ok vs.toArray w := by
    intro n
    induction n with
    | zero => intro i acc hi ha; subst ha; simp [loadCellsFrom, show i = vs.length by omega]
    | succ n ih =>
      intro i acc hi ha
      have hlt : i < vs.length := by omega
      have h1 := hc i vs[i] (List.getElem?_eq_getElem hlt)
      simp only [loadCellsFrom, Sem.run_bind, run_load, Addr.add_lit, h1, Result.andThen_ok]
      refine ih (i + 1) _ (by omega) ?_
      subst ha
      rw [List.take_succ_eq_append_getElem hlt]
      simp
  exact key vs.length 0 #[] (by omega) (by simp)
theorem run_loadVar' (T : TT P) {t n : Nat} {ag : Bool} (ht : f2 T.siz t = some (n, ag)) {w : World} {b o : Nat} {vs : List Value} (hn : vs.length = n) (h1 : ag = false → n = 1)
    (hc : ∀ j v, vs[j]? = some v → w.cell? ⟨b, o + j, none⟩ = some v) : (loadVar t ⟨b, o, none⟩).run P w = .ok (if ag then .agg vs.toArray else vs.getD 0 undef) w := by
  obtain ⟨j, d, hj, hjn, hne, hu, hd⟩ := T.siz_at ht
  cases ag with
  | true => simp [loadVar, run_isAgg' hu, hd, run_sizeOf' hj, hjn, ← hn, run_loadCells' hc]
  | false =>
    have hn1 : vs.length = 1 := by rw [hn]; exact h1 rfl
    match vs, hn1 with
    | [v], _ =>
      have := hc 0 v rfl
      simp at this
      simp [loadVar, run_isAgg' hu, hd, this]
def ldA (ag : Bool) (n : Nat) (cs : List AV) : AV := if ag then .ag (cs.take n) else (cs.headD (.v undef))
theorem ldA_rel {w : World} {S : Nat → Prop} {ag : Bool} {n : Nat} {cs : List AV} {vs : List Value} (h : VRels w S cs vs) (hl : n ≤ cs.length) (h0 : n ≠ 0) :
    VRel w S (ldA ag n cs) (if ag then .agg (vs.take n).toArray else (vs.take n).getD 0 undef) := by
  cases ag with
  | true => simp only [ldA, if_true]; exact .ag (h.take n).1 (h.take n).2
  | false =>
    simp only [ldA, if_false]
    have hl' := h.1
    match cs, vs, n, h0 with
    | [], _, _, _ => simp at hl; omega
    | c :: cs, [], _, _ => simp at hl'
    | c :: cs, v :: vs, n + 1, _ => simpa using h.2 0 c v rfl rfl
theorem lv_cl (T : TT P) {t n g off : Nat} {x : Operand} {ag : Bool} {T' : TypeId} {cs : List AV} (ho : o.op = .load t x) (hx : evA s x = some (.v (.pointer (some ⟨g, off, none⟩)))) (ht : f2 T.siz t = some (n, ag))
    (hm : Mem1 (.cl g T' cs) h) (hl : off + n ≤ cs.length) (h1 : ag = true ∨ n = 1) : LV P o s h (some (.cl g T' cs)) (ldA ag n (cs.drop off)) := fun w S a hs hh => by
  obtain ⟨vs, hv, hr⟩ := hh.ent _ hm.mem
  have hlv : off + n ≤ vs.length := by rw [← hr.1]; exact hl
  obtain ⟨j, d, hj, hjn, hne, hu, hd⟩ := T.siz_at ht
  refine ⟨if ag then .agg ((vs.drop off).take n).toArray else ((vs.drop off).take n).getD 0 undef, g, fun w' hw' => ?_, ldA_rel (hr.drop off) (by simp; omega) hne, .inr ⟨_, rfl, hm.mem, rfl⟩⟩
  have := run_loadVar' T ht (w := w') (b := g) (o := off) (vs := (vs.drop off).take n) (by simp; omega) (fun e => h1.resolve_left (by rw [e]; simp)) (fun j v hjv => by
    rw [List.getElem?_take] at hjv
    split at hjv
    · rw [List.getElem?_drop] at hjv
      simp [World.cell?, hw', hv, hjv]
    · cases hjv)
  simp [execOp, ho, hs.lit hx, Instr.loadAt, Instr.sureAddr, this]
theorem VRels.ofTr {w : World} {S : Nat → Prop} {xs : List Tr} {vs : List Value} (hl : xs.length = vs.length) (h : ∀ (j : Nat) (x : Tr) (v : Value), xs[j]? = some x → vs[j]? = some v → TRel w S x v) : VRels w S (xs.map AV.ofTr) vs :=
  ⟨by simpa using hl, fun j y v hy hv => by
    rw [List.getElem?_map] at hy
    cases hx : xs[j]? with
    | none => rw [hx] at hy; cases hy
    | some x => rw [hx] at hy; simp at hy; subst hy; exact (h j x v hx hv).av⟩
theorem lv_elt (T : TT P) {t n sz m k off : Nat} {x : Operand} {ag : Bool} {f : Nat → List Tr} (ho : o.op = .load t x) (hx : evA s x = some (.elt sz m f k off)) (ht : f2 T.siz t = some (n, ag))
    (hl : off + n ≤ (f k).length) (h1 : ag = true ∨ n = 1) : LV P o s h none (ldA ag n (((f k).map AV.ofTr).drop off)) := fun w S a hs hh => by
  have hxe := hs.eval hx
  generalize hev : a.eval x = v at *
  obtain ⟨j, d, hj, hjn, hne, hu, hd⟩ := T.siz_at ht
  cases hxe with
  | @elt cp _ _ _ _ _ b off0 c hT hk =>
    cases hT with
    | @sl _ _ _ _ _ _ val hc hlen hcell ih =>
      obtain ⟨b', off', e, hb, hcells⟩ := hcell k hk
      simp at e
      obtain ⟨rfl, rfl⟩ := e
      have hszk := hlen k hk
      have hR : VRels w S ((f k).map AV.ofTr) ((List.range sz).map (val k)) := VRels.ofTr (by simp [hszk]) (fun j x v hx hv => by
        rw [List.getElem?_map] at hv
        have hj : j < sz := by rw [← hszk]; exact (List.getElem?_eq_some_iff.1 hx).1
        rw [List.getElem?_range hj] at hv
        simp at hv; subst hv; exact ih k j x hk hx)
      refine ⟨if ag then .agg ((((List.range sz).map (val k)).drop off).take n).toArray else ((((List.range sz).map (val k)).drop off).take n).getD 0 undef, b, fun w' hw' => ?_, ldA_rel (hR.drop off) (by simp; omega) hne, .inl hb⟩
      have := run_loadVar' T ht (w := w') (b := b) (o := off0 + k * sz + off) (vs := (((List.range sz).map (val k)).drop off).take n) (by simp; omega) (fun e => h1.resolve_left (by rw [e]; simp)) (fun j v hjv => by
        rw [List.getElem?_take] at hjv
        split at hjv
        · rw [List.getElem?_drop, List.getElem?_map] at hjv
          have hjs : off + j < sz := by omega
          rw [List.getElem?_range hjs] at hjv
          simp at hjv
          subst hjv
          rw [Nat.add_assoc, cell_of_block hw']
          exact hcells (off + j) hjs
        · cases hjv)
      simp [execOp, ho, hev, Instr.loadAt, Instr.sureAddr, this]
theorem flat_get {rows : List (List AV)} {sz : Nat} (h : ∀ r ∈ rows, r.length = sz) (k j : Nat) (hk : k < rows.length) (hj : j < sz) : rows.flatten[k * sz + j]? = (rows.getD k [])[j]? := by
  induction rows generalizing k with
  | nil => simp at hk
  | cons c css ih =>
    have h0 := h c (by simp)
    cases k with
    | zero => simp [List.getElem?_append, h0, hj]
    | succ k =>
      have h1 := ih (fun r hr => h r (by simp [hr])) k (by simpa using hk)
      have e : (k + 1) * sz + j = sz + (k * sz + j) := by rw [Nat.add_mul]; omega
      rw [e, List.flatten_cons, List.getElem?_append_right (by omega), h0, Nat.add_sub_cancel_left, h1]
      simp
theorem lv_rp (T : TT P) {t sz k off g n c E : Nat} {x : Operand} {rows : List (List AV)} {y : AV} (ho : o.op = .load t x) (hx : evA s x = some (.rp (.slice (some ⟨g, 0, none⟩) n c) sz k off)) (ht : f2 T.siz t = some (1, false))
    (hm : Mem1 (.rw (.slice (some ⟨g, 0, none⟩) n c) E sz rows) h) (hk : k < rows.length) (hoff : off < sz) (hy : (rows.getD k [])[off]? = some y) : LV P o s h (some (.rw (.slice (some ⟨g, 0, none⟩) n c) E sz rows)) y := fun w S a hs hh => by
  obtain ⟨xs, hown, hr, hl⟩ := hh.ent _ hm.mem
  have hxe := hs.eval hx
  generalize hev : a.eval x = v at *
  cases hxe with
  | rp =>
    obtain ⟨v, hv, hvr⟩ := hr.get ((flat_get hl k off hk hoff).trans hy)
    have hcell := @World.ownsRow.cells _ _ _ _ _ _ _ hown g rfl _ _ hv
    have e : ((⟨g, 0, none⟩ : Addr).add (k * sz + off)) = ⟨g, k * sz + off, none⟩ := by rw [Addr.add_lit]; simp
    rw [e] at hcell
    refine ⟨v, g, fun w' hw' => ?_, hvr, .inr ⟨_, rfl, hm.mem, rfl⟩⟩
    have := run_loadVar' T ht (w := w') (b := g) (o := k * sz + off) (vs := [v]) rfl (fun _ => rfl) (fun j u hj => by
      cases j with
      | zero => simp at hj; subst hj; rw [Nat.add_zero, cell_of_block hw']; exact hcell
      | succ j => simp at hj)
    simp [execOp, ho, hev, Instr.loadAt, Instr.sureAddr, this]
end
end Go.Tl
namespace Go.Tl
open Go Go.RowKit
set_option linter.unusedVariables false
set_option linter.unusedSimpArgs false
def AOp (P : Program) (N : Nat) (o : Oper) (md : Nat → Prop) (s : Slots) (h : List Ent) (K : Slots → List Ent → Prop) : Prop :=
  ∀ (B : Base) (w : World) (S : Nat → Prop) (a : Act), Sim B N w S s h a → ∀ (Kr : Act → World → Prop) (Qr : Exit → Act → World → Prop),
    (∀ v w' S' s' h', K s' h' → Sim B N w' S' s' h' (a.put o.dst v) → Upd w S w' S' md → Kr (a.put o.dst v) w') → wpX P o a w Kr Qr
def post (B : Base) (N : Nat) (Q : Exit → Slots → List Ent → Prop) (e : Exit) (a : Act) (w : World) : Prop := ∃ S s h, Q e s h ∧ Sim B N w S s h a
def postR (B : Base) (N : Nat) (Q : Exit → Slots → List Ent → Prop) (e : Exit) (a : Act) (w : World) : Prop := e = .normal ∧ post B N Q e a w
def AWP (P : Program) (N : Nat) (ro : Option Nat) (c : Code) (Q : Exit → Slots → List Ent → Prop) (s : Slots) (h : List Ent) : Prop :=
  ∀ (B : Base) (w : World) (S : Nat → Prop) (a : Act), Sim B N w S s h a → c.wpIn (FR ro) 0 P (post B N Q) a w
def AWL (P : Program) (N : Nat) (ops : Array Oper) (l : List Oper) (Q : Exit → Slots → List Ent → Prop) (s : Slots) (h : List Ent) : Prop :=
  ∀ (B : Base) (w : World) (S : Nat → Prop) (a : Act), Sim B N w S s h a → wpLX P ops (postR B N Q) l a w
section
variable {P : Program} {N : Nat} {ro : Option Nat} {o : Oper} {md : Nat → Prop} {s : Slots} {h : List Ent} {K : Slots → List Ent → Prop} {Q : Exit → Slots → List Ent → Prop}
theorem aop_pv {y : AV} {d : Nat} (H : PV P o s y) (hd : o.dst = some d) (hN : d < N) (hK : K ((d, y) :: s) h) : AOp P N o md s h K := fun B w S a hs Kr Qr hk => by
  obtain ⟨v, hrun, hv⟩ := H w S a hs.slots
  unfold wpX
  rw [hd] at hk
  rw [hrun, Oper.uponIn_value, hd]
  exact hk _ _ S _ _ hK (hs.put hv hN) .refl
theorem aop_lv {y : AV} {d : Nat} {e : Option Ent} (H : LV P o s h e y) (hd : o.dst = some d) (hN : d < N) (hK : K ((d, y) :: s) h) : AOp P N o md s h K := fun B w S a hs Kr Qr hk => by
  obtain ⟨v, b, hrun, hv, _⟩ := H w S a hs.slots hs.heap
  unfold wpX
  rw [hd] at hk
  rw [hrun w rfl, Oper.uponIn_value, hd]
  exact hk _ _ S _ _ hK (hs.put hv hN) .refl
theorem wpLX_op {ops : Array Oper} {o : Oper} {rest : List Oper} {Q : Exit → Act → World → Prop} {a : Act} {w : World} (hw : Region.wanted o (yielded ops a.tmps) = true) (h : wpX P o a w (wpLX P ops Q rest) Q) : wpLX P ops Q (o :: rest) a w := by
  simp only [wpLX]
  rw [if_pos hw]
  exact h
theorem wpLX_skip {ops : Array Oper} {o : Oper} {rest : List Oper} {Q : Exit → Act → World → Prop} {a : Act} {w : World} (hw : Region.wanted o (yielded ops a.tmps) = false) (h : wpLX P ops Q rest (a.put o.dst undef) w) : wpLX P ops Q (o :: rest) a w := by
  simp only [wpLX]
  rw [if_neg (by rw [hw]; simp)]
  exact h
theorem awl_nil {ops : Array Oper} (H : Q .normal s h) : AWL P N ops [] Q s h := fun B w S a hs => ⟨rfl, S, s, h, H, hs⟩
theorem postR_post {B : Base} (e : Exit) (a : Act) (w : World) (h : postR B N Q e a w) : post B N Q e a w := h.2
theorem awp_region {id : Nat} {ops : Array Oper} (hn : ops.toList.all ndO = true) (H : AWL P N ops ops.toList Q s h) : AWP P N ro (.region id ops false) Q s h := fun B w S a hs => Code.wpIn_mono postR_post (wpIn_regionX hn (H B w S a hs))
theorem awp_region_lit {id : Nat} {l : List Oper} (hn : l.all ndO = true) (H : AWL P N l.toArray l Q s h) : AWP P N ro (.region id l.toArray false) Q s h := awp_region (by simpa using hn) (by simpa using H)
def thenQ (K : Slots → List Ent → Prop) (Q : Exit → Slots → List Ent → Prop) : Exit → Slots → List Ent → Prop
  | .normal, s, h => K s h
  | e, s, h => Q e s h
def blockQ (id : Nat) (Q : Exit → Slots → List Ent → Prop) : Exit → Slots → List Ent → Prop
  | .exit i, s, h => cond (Nat.beq i id) (Q .normal s h) (Q (.exit i) s h)
  | e, s, h => Q e s h
def scopeQ (Q : Exit → Slots → List Ent → Prop) : Exit → Slots → List Ent → Prop
  | .goto _, _, _ => False
  | e, s, h => Q e s h
theorem awp_seq {x y : Code} (H : AWP P N ro x (thenQ (AWP P N ro y Q) Q) s h) : AWP P N ro (.seq x y) Q s h := fun B w S a hs =>
  wpIn_seq (Code.wpIn_mono (fun e a' w' hq => by
    obtain ⟨S', s', h', hq, hs'⟩ := hq
    cases e with
    | normal => exact hq B w' S' a' hs'
    | _ => exact ⟨S', s', h', hq, hs'⟩) (H B w S a hs))
theorem awp_block {id : Nat} {c : Code} (H : AWP P N ro c (blockQ id Q) s h) : AWP P N ro (.block id c) Q s h := fun B w S a hs =>
  wpIn_block (Code.wpIn_mono (fun e a' w' hq => by
    obtain ⟨S', s', h', hq, hs'⟩ := hq
    cases e with
    | exit i =>
      simp only [Exit.inBlock]
      by_cases hi : i = id
      · subst hi
        simp only [blockQ, Nat.beq_refl, cond_true] at hq
        rw [if_pos rfl]
        exact ⟨S', s', h', hq, hs'⟩
      · have hb : Nat.beq i id = false := by
          cases hq : Nat.beq i id with
          | false => rfl
          | true => exact absurd (Nat.eq_of_beq_eq_true hq) hi
        simp only [blockQ, hb, cond_false] at hq
        rw [if_neg hi]
        exact ⟨S', s', h', hq, hs'⟩
    | _ => exact ⟨S', s', h', hq, hs'⟩) (H B w S a hs))
theorem awp_skip (H : Q .normal s h) : AWP P N ro .skip Q s h := fun B w S a hs => wpIn_skip ⟨S, s, h, H, hs⟩
theorem awp_ret (H : Q .ret s h) : AWP P N ro .ret Q s h := fun B w S a hs => wpIn_ret ⟨S, s, h, H, hs⟩
theorem awp_exit {id : Nat} (H : Q (.exit id) s h) : AWP P N ro (.exit id) Q s h := fun B w S a hs => wpIn_exit ⟨S, s, h, H, hs⟩
theorem awp_cond {c : Operand} {x y : Code} {b : Bool} (hc : evA s c = some (.v (.bool b))) (Ht : b = true → AWP P N ro x Q s h) (Hf : b = false → AWP P N ro y Q s h) : AWP P N ro (.cond c x y) Q s h := fun B w S a hs =>
  wpIn_cond_split (hs.slots.lit hc) (fun e => Ht e B w S a hs) (fun e => Hf e B w S a hs)
def SubS : Slots → Slots → Prop
  | [], _ => True
  | (d, x) :: r, s => look s d = some x ∧ SubS r s
theorem SubS.look {s' s : Slots} (H : SubS s' s) : ∀ d x, look s' d = some x → look s d = some x := by
  induction s' with
  | nil => intro d x hx; simp [Tl.look] at hx
  | cons p r ih =>
    obtain ⟨e, y⟩ := p
    intro d x hx
    simp only [Tl.look] at hx
    cases hb : Nat.beq e d with
    | true =>
      rw [hb] at hx
      simp at hx
      subst hx
      rw [← Nat.eq_of_beq_eq_true hb]
      exact H.1
    | false =>
      rw [hb] at hx
      exact ih H.2 d x hx
inductive SubH : List Ent → List Ent → Prop where
  | nil {l : List Ent} : SubH [] l
  | cons {e : Ent} {r l l' : List Ent} (hp : Pick l e l') (H : SubH r l') : SubH (e :: r) l
theorem SubH.mem {r l : List Ent} (H : SubH r l) : ∀ z ∈ r, z ∈ l := by
  induction H with
  | nil => intro z hz; cases hz
  | cons hp _ ih =>
    intro z hz
    obtain ⟨a, b, rfl, rfl⟩ := hp.split
    rcases List.mem_cons.1 hz with rfl | hz
    · simp
    · have := ih z hz
      rcases List.mem_append.1 this with h | h
      · exact List.mem_append_left _ h
      · exact List.mem_append_right _ (List.mem_cons_of_mem _ h)
theorem SubH.sep {r l : List Ent} (H : SubH r l) : l.Pairwise Apart → r.Pairwise Apart := by
  induction H with
  | nil => intro _; exact List.Pairwise.nil
  | cons hp H ih =>
    intro hl
    obtain ⟨a, b, rfl, rfl⟩ := hp.split
    have hl2 := hl
    rw [List.pairwise_append] at hl2
    obtain ⟨ha, hb, hab⟩ := hl2
    rw [List.pairwise_cons] at hb
    refine List.pairwise_cons.2 ⟨fun z hz => ?_, ih (List.pairwise_append.2 ⟨ha, hb.2, fun x hx y hy => hab x hx y (List.mem_cons_of_mem _ hy)⟩)⟩
    rcases List.mem_append.1 (H.mem z hz) with h | h
    · exact (hab z h _ List.mem_cons_self).symm
    · exact hb.1 z h
theorem SubH.heap {w : World} {S : Nat → Prop} {r l : List Ent} (H : SubH r l) (hr : HRel w S l) : HRel w S r :=
  ⟨fun z hz => hr.ent z (H.mem z hz), fun z hz => hr.off z (H.mem z hz), H.sep hr.sep⟩
theorem Sim.weak {B : Base} {w : World} {S : Nat → Prop} {a : Act} (hs : Sim B N w S s h a) {s' : Slots} {h' : List Ent} (h1 : SubS s' s) (h2 : SubH h' h) : Sim B N w S s' h' a :=
  ⟨hs.ext, hs.defs.keep (fun _ _ _ => rfl) (fun _ h => .inl h) (fun e he r hb => .inl ⟨e, h2.mem e he, hb⟩), hs.size, fun d x hx => hs.slots d x (h1.look d x hx), hs.lt, h2.heap hs.heap, fun z hz => hs.live z (h2.mem z hz), hs.off⟩
theorem Sim.sub {B : Base} {w : World} {S : Nat → Prop} {a : Act} (hs : Sim B N w S s h a) {h' : List Ent} (h2 : SubH h' h) : Sim B N w S s h' a :=
  ⟨hs.ext, hs.defs.keep (fun _ _ _ => rfl) (fun _ h => .inl h) (fun e he r hb => .inl ⟨e, h2.mem e he, hb⟩), hs.size, hs.slots, hs.lt, h2.heap hs.heap, fun z hz => hs.live z (h2.mem z hz), hs.off⟩
theorem awp_weak {c : Code} {s' : Slots} {h' : List Ent} (h1 : SubS s' s) (h2 : SubH h' h) (H : AWP P N ro c Q s' h') : AWP P N ro c Q s h := fun B w S a hs => H B w S a (hs.weak h1 h2)
theorem awp_mono {c : Code} {Q' : Exit → Slots → List Ent → Prop} (H : AWP P N ro c Q s h) (hq : ∀ e s' h', Q e s' h' → Q' e s' h') : AWP P N ro c Q' s h := fun B w S a hs =>
  Code.wpIn_mono (fun e a' w' ⟨S', s', h', hq', hs'⟩ => ⟨S', s', h', hq e s' h' hq', hs'⟩) (H B w S a hs)
theorem roundsX_mono {c : Code} {R : Exit → Act → World → Prop} : ∀ (k l : Nat), k ≤ l → ∀ a w, Code.roundsIn (FR ro) 0 P c R k a w → Code.roundsIn (FR ro) 0 P c R l a w
  | 0, _, _, _, _, h => h.elim
  | k + 1, 0, hkl, _, _, _ => absurd hkl (by omega)
  | k + 1, l + 1, hkl, a, w, h => by
    rw [roundsIn_succ] at h ⊢
    exact Code.wpIn_mono (fun e a' w' hq => by
      cases e with
      | normal => exact roundsX_mono k l (by omega) a' w' hq
      | _ => exact hq) h
def roundQ (I : Nat → Slots → List Ent → Prop) (n : Nat) (Q : Exit → Slots → List Ent → Prop) : Exit → Slots → List Ent → Prop
  | .normal, s, h => ∃ m s' h', m < n ∧ I m s' h' ∧ SubS s' s ∧ SubH h' h
  | e, s, h => Q e s h
theorem awp_loop {c : Code} (I : Nat → Slots → List Ent → Prop) (H : ∀ n s' h', I n s' h' → AWP P N ro c (roundQ I n Q) s' h') {n : Nat} {s' : Slots} {h' : List Ent} (h0 : I n s' h') (h1 : SubS s' s) (h2 : SubH h' h) : AWP P N ro (.loop c) Q s h := fun B w S a hs => by
  have key : ∀ n s' h', I n s' h' → ∀ (w : World) (S : Nat → Prop) (a : Act), Sim B N w S s' h' a → Code.roundsIn (FR ro) 0 P c (post B N Q) (n + 1) a w := by
    intro n
    induction n using Nat.strongRecOn with
    | _ n ih =>
      intro s' h' hI w S a hs
      rw [roundsIn_succ]
      refine Code.wpIn_mono (fun e a' w' hq => ?_) (H n s' h' hI B w S a hs)
      obtain ⟨S1, s1, h1, hq, hs1⟩ := hq
      cases e with
      | normal =>
        obtain ⟨m, s2, h2, hm, hI2, hss, hsh⟩ := hq
        exact roundsX_mono (m + 1) n (by omega) a' w' (ih m hm s2 h2 hI2 w' S1 a' (hs1.weak hss hsh))
      | _ => exact ⟨S1, s1, h1, hq, hs1⟩
  exact wpIn_loop_rounds _ (key n s' h' h0 w S a (hs.weak h1 h2))
end
end Go.Tl
namespace Go.Tl
open Go Go.RowKit
set_option linter.unusedVariables false
set_option linter.unusedSimpArgs false
def cellsA : AV → List AV
  | .ag cs => cs
  | .v x => [.v x]
  | .t x => [.t x]
  | .tup vs => [.tup vs]
  | .elt sz n f k o => [.elt sz n f k o]
  | .fn g a b => [.fn g a b]
  | .rp v sz k o => [.rp v sz k o]
def oneA : AV → Bool
  | .ag _ => false
  | .v x => x.oneCell'
  | .t (.sc x) => x.oneCell'
  | .t (.sl _ _ _ _) => true
  | .tup _ => false
  | .elt _ _ _ _ _ => true
  | .fn _ _ _ => true
  | .rp _ _ _ _ => true
def okA : AV → Bool
  | .ag _ => true
  | y => oneA y
theorem oneA_one {w : World} {S : Nat → Prop} {y : AV} {v : Value} (h : VRel w S y v) (ho : oneA y = true) : v.oneCell' = true := by
  cases h with
  | v x => exact ho
  | t h => cases h with
    | sc => exact ho
    | sl => rfl
  | ag => simp [oneA] at ho
  | tup => simp [oneA] at ho
  | elt => rfl
  | fn => rfl
  | rp => rfl
theorem cells_one {v : Value} (h : v.oneCell' = true) : v.cells = #[v] := by cases v <;> simp_all [Value.cells, Value.oneCell']
theorem cellsA_rel {w : World} {S : Nat → Prop} {y : AV} {v : Value} (h : VRel w S y v) (ho : okA y = true) : VRels w S (cellsA y) v.cells.toList := by
  have one : oneA y = true → VRels w S (cellsA y) v.cells.toList := fun h1 => by
    rw [cells_one (oneA_one h h1)]
    have : cellsA y = [y] := by cases y <;> first | rfl | simp [oneA] at h1
    rw [this]
    exact .cons h .nil
  cases y with
  | ag cs =>
    cases h with
    | ag hl hh => exact ⟨hl, hh⟩
  | _ => exact one ho
theorem ones_rel {w : World} {S : Nat → Prop} {cs : List AV} {vs : List Value} (h : VRels w S cs vs) (ho : ∀ c ∈ cs, oneA c = true) : ∀ v ∈ vs, v.oneCell' = true := fun v hv => by
  obtain ⟨j, hj, rfl⟩ := List.getElem_of_mem hv
  have hj' : j < cs.length := by rw [h.1]; exact hj
  exact oneA_one (h.2 j cs[j] vs[j] (List.getElem?_eq_getElem hj') (List.getElem?_eq_getElem hj)) (ho _ (List.getElem_mem hj'))
def spA (cs : List AV) (off : Nat) (ys : List AV) : List AV := cs.take off ++ ys ++ cs.drop (off + ys.length)
section
variable {P : Program} {N : Nat} {o : Oper} {md : Nat → Prop} {s : Slots} {h : List Ent} {K : Slots → List Ent → Prop}
theorem upd_push {w w' : World} {S : Nat → Prop} (hs : w.heap.size ≤ w'.heap.size) (hw : ∀ b, b < w.heap.size → w'.heap[b]? = w.heap[b]?) : Upd w S w' S md := ⟨hs, fun b hb _ => hw b hb, fun _ h => h⟩
theorem alloc_old (w : World) (x : Obj) (b : Nat) (hb : b < w.heap.size) : (w.alloc x).heap[b]? = w.heap[b]? := Below.heap_alloc _ _ _ hb
theorem grw_alloc (w : World) (x : Obj) : Grw w (w.alloc x) (fun _ => False) := ⟨rfl, rfl, rfl, by simp, fun b hb _ => alloc_old w x b hb⟩
theorem aop_alloc (T : TT P) {t d : Nat} {z : Value} {cs : List AV} (ho : o.op = .alloc t) (hd : o.dst = some d) (hN : d < N) (hz : f2 T.zer t = some z) (hcs : z.cells.toList.map AV.v = cs)
    (hK : ∀ g, K ((d, .v (.pointer (some ⟨g, 0, none⟩))) :: s) (.cl g t cs :: h)) : AOp P N o md s h K := fun B w S a hs Kr Qr hk => by
  have h1 := zOk_at T.zerOk hz
  obtain ⟨i, hi, hiz⟩ := Option.map_eq_some_iff.1 h1
  have hrun : (execOp a.eval o).run P w = .ok (.value (.pointer (some ⟨w.heap.size, 0, none⟩))) (w.alloc (.cells z.cells t)) := by
    simp [execOp, ho, Instr.alloc, zeroValue, typeInfo, hi, hiz, newVar, newRow]
  unfold wpX
  rw [hd] at hk
  rw [hrun, Oper.uponIn_value, hd]
  have hold := fun b hb => alloc_old w (.cells z.cells t) b hb
  refine hk _ _ S _ _ (hK w.heap.size) ((hs.push (w' := w.alloc (.cells z.cells t)) (grw_alloc _ _) (e := .cl w.heap.size t cs) ⟨z.cells.toList, by rw [heap_alloc_new, Array.toArray_toList], by subst hcs; exact .lits _⟩ (fun g hg => by simp [Ent.blk] at hg; omega)).put (.v _) hN) (upd_push (by simp) hold)
theorem aop_box {t d : Nat} {x : Operand} {y : AV} (ho : o.op = .box t x) (hx : evA s x = some y) (hok : okA y = true) (hd : o.dst = some d) (hN : d < N)
    (hK : ∀ g, K ((d, .v (.pointer (some ⟨g, 0, none⟩))) :: s) (.cl g t (cellsA y) :: h)) : AOp P N o md s h K := fun B w S a hs Kr Qr hk => by
  have hv := hs.slots.eval hx
  generalize hev : a.eval x = v at *
  have hrun : (execOp a.eval o).run P w = .ok (.value (.pointer (some ⟨w.heap.size, 0, none⟩))) (w.alloc (.cells v.cells t)) := by
    simp [execOp, ho, hev, Instr.box, newVar, newRow]
  unfold wpX
  rw [hd] at hk
  rw [hrun, Oper.uponIn_value, hd]
  have hr := cellsA_rel hv hok
  have hold := fun b hb => alloc_old w (.cells v.cells t) b hb
  refine hk _ _ S _ _ (hK w.heap.size) ((hs.push (w' := w.alloc (.cells v.cells t)) (grw_alloc _ _) (e := .cl w.heap.size t (cellsA y)) ⟨v.cells.toList, by rw [heap_alloc_new, Array.toArray_toList], hr.mono (fun _ h => h) (fun b hb => hold b (hs.lt b hb))⟩ (fun g hg => by simp [Ent.blk] at hg; omega)).put (.v _) hN) (upd_push (by simp) hold)
theorem grown_setRow (w : World) (g : Nat) (cs : Array Value) : w.grownBy (w.setRow g cs) (some g) := ⟨rfl, rfl, rfl, by simp, fun k _ hk => setRow_other w g k cs (fun e => hk (by rw [e]))⟩
theorem aop_store (T : TT P) {t n g off : Nat} {ag : Bool} {x y : Operand} {u : AV} {T' : TypeId} {cs cs' : List AV} {h' : List Ent} (ho : o.op = .store t x y) (hx : evA s x = some (.v (.pointer (some ⟨g, off, none⟩)))) (hy : evA s y = some u)
    (ht : f2 T.siz t = some (n, ag)) (hok : okA u = true) (hone : (cellsA u).all oneA = true) (hn : (cellsA u).length = n) (hd : o.dst = none) (hp : Repl h (.cl g T' cs) (.cl g T' cs') h') (hl : off + n ≤ cs.length) (hcs : spA cs off (cellsA u) = cs') (hmd : md g)
    (hK : K s h') : AOp P N o md s h K := fun B w S a hs Kr Qr hk => by
  obtain ⟨j, d, hj, hjn, hne, hu, hd'⟩ := T.siz_at ht
  have hv := hs.slots.eval hy
  have hxl := hs.slots.lit hx
  generalize hev : a.eval y = v at *
  have hmem : Ent.cl g T' cs ∈ h := by obtain ⟨p, q, rfl, _⟩ := hp.split; simp
  obtain ⟨vs, hvs, hr⟩ := hs.heap.ent _ hmem
  have hc := cellsA_rel hv hok
  have hcl : v.cells.toList.length = n := by rw [← hc.1]; exact hn
  have hones := ones_rel hc (by simpa [List.all_eq_true] using hone)
  have hst := run_storeCells_at P g off T' v.cells.toList 0 vs.toArray w hvs (by have := hr.1; simp at hcl ⊢; omega) hones
  simp only [Nat.add_zero] at hst
  have hrun : (execOp a.eval o).run P w = .ok .skip (w.setRow g (vs.toArray.toList.take off ++ v.cells.toList ++ vs.toArray.toList.drop (off + v.cells.toList.length)).toArray) := by
    have hsz : v.cells.size = j.size := by rw [hjn, ← hcl]; simp
    have hst2 := hst
    simp at hst2
    simp [execOp, ho, hxl, hev, Instr.storeAt, Instr.sureAddr, storeVar, run_sizeOf' hj, hsz]
    rw [hst2]
    simp [hsz]
  unfold wpX
  rw [hd] at hk
  rw [hrun, Oper.uponIn_skip, hd]
  have hg := grown_setRow w g (vs.toArray.toList.take off ++ v.cells.toList ++ vs.toArray.toList.drop (off + v.cells.toList.length)).toArray
  have hkS : ∀ b, S b → (w.setRow g (vs.toArray.toList.take off ++ v.cells.toList ++ vs.toArray.toList.drop (off + v.cells.toList.length)).toArray).heap[b]? = w.heap[b]? := fun b hb => setRow_other w g b _ (fun e => hs.heap.off _ hmem g rfl (by rw [← e]; exact hb))
  refine hk _ _ S _ _ hK ((hs.repl hp (.of hg (by simp [Ent.blk])) ⟨_, setRow_heap w g _ _ T' _ hvs, ?_⟩ (fun g' hg' => .inl hg')).putNone) ⟨by simp, fun b hb hnb => setRow_other w g b _ (fun e => hnb (by rw [e]; exact hmd)), fun _ h => h⟩
  subst hcs
  have hll : (cellsA u).length = v.cells.toList.length := hc.1
  simp only [spA]
  rw [hll]
  exact ((hr.take off).append hc |>.append (hr.drop _)).mono (fun _ h => h) hkS
theorem fold_set (off : Nat) : ∀ (l : List Value) (k : Nat) (cells : Array Value), off + k + l.length ≤ cells.size →
    ((l.zipIdx k).foldl (fun (cs : Array Value) (p : Value × Nat) => cs.setIfInBounds (off + p.2) p.1) cells).toList = cells.toList.take (off + k) ++ l ++ cells.toList.drop (off + k + l.length)
  | [], k, cells, h => by simp
  | v :: l, k, cells, h => by
    simp at h
    have hk : off + k < cells.size := by omega
    rw [List.zipIdx_cons, List.foldl_cons, fold_set off l (k + 1) _ (by simp; omega)]
    have e1 : (cells.setIfInBounds (off + k) v).toList = cells.toList.set (off + k) v := by simp
    rw [e1, show off + (k + 1) = off + k + 1 from rfl, List.take_succ_eq_append_getElem (by simpa using hk), List.take_set, List.drop_set]
    rw [if_pos (show off + k < off + k + 1 + l.length by omega)]
    simp only [List.length_cons, List.append_assoc, List.cons_append, List.nil_append]
    rw [show off + k + (l.length + 1) = off + k + 1 + l.length by omega]
    have e2 : (List.take (off + k) cells.toList).set (off + k) v = List.take (off + k) cells.toList := List.set_eq_of_length_le (by simp; omega)
    have e3 : (cells.toList.set (off + k) v)[off + k]'(by simpa using hk) = v := by simp
    rw [e2, e3]
def idxs {α : Type} : Nat → List α → List (Nat × α)
  | _, [] => []
  | k, x :: r => (k, x) :: idxs (k + 1) r
theorem fill_rows (sz : Nat) : ∀ (vs : List Value) (k : Nat) (pre : List Value) (cells : Array Value), pre.length = k * sz → (∀ v ∈ vs, v.cells.size = sz) → cells.toList.take (k * sz) = pre → cells.size = (k + vs.length) * sz →
    ∃ cells', Instr.fill (fun i => some (i * sz, sz)) cells (idxs k vs) = some cells' ∧ cells'.toList = pre ++ (vs.map fun v => v.cells.toList).flatten
  | [], k, pre, cells, hp, _, ht, hc => ⟨cells, rfl, by simp at hc; rw [← ht, List.take_of_length_le (by simp [hc])]; simp⟩
  | v :: vs, k, pre, cells, hp, hv, ht, hc => by
    have h1 := hv v (by simp)
    have hlen : (k + (v :: vs).length) * sz = k * sz + sz + vs.length * sz := by simp only [List.length_cons]; rw [← Nat.succ_mul, ← Nat.add_mul]; congr 1; omega
    have hfit : k * sz + v.cells.size ≤ cells.size := by rw [hc, hlen, h1]; omega
    have hf := fold_set (k * sz) v.cells.toList 0 cells (by simpa using hfit)
    have hne : ¬ (v.cells.size ≠ sz ∨ k * sz + v.cells.size > cells.size) := by omega
    have e0 : (Array.foldl (fun (cs : Array Value) (p : Value × Nat) => cs.setIfInBounds (k * sz + p.2) p.1) cells v.cells.zipIdx) = (v.cells.toList.zipIdx 0).foldl (fun (cs : Array Value) (p : Value × Nat) => cs.setIfInBounds (k * sz + p.2) p.1) cells := by
      rw [← Array.foldl_toList, Array.toList_zipIdx]
    obtain ⟨cells', h2, h3⟩ := fill_rows sz vs (k + 1) (pre ++ v.cells.toList) ((v.cells.toList.zipIdx 0).foldl (fun (cs : Array Value) (p : Value × Nat) => cs.setIfInBounds (k * sz + p.2) p.1) cells)
      (by simp [hp, h1, Nat.add_mul]) (fun u hu => hv u (by simp [hu])) (by
        rw [hf]
        simp only [Nat.add_zero]
        rw [ht, List.take_append_of_le_length (by simp [hp, h1, Nat.add_mul]), List.take_of_length_le (by simp [hp, h1, Nat.add_mul])])
      (by
        rw [← Array.length_toList, hf]
        have := hc
        simp [h1] at hfit ⊢
        rw [hlen] at hc
        rw [Nat.add_mul, Nat.add_mul]
        omega)
    refine ⟨cells', ?_, by rw [h3]; simp⟩
    simp only [idxs, Instr.fill]
    rw [e0]
    simp only [Bool.or_eq_true, decide_eq_true_eq]
    rw [if_neg hne]
    exact h2
theorem aop_buildSlice (T : TT P) {t len d e sz bt : Nat} {z : Value} {parts : Array (Nat × Operand)} {xs : List Operand} {ys : List AV} (ho : o.op = .buildSlice t len parts) (hd : o.dst = some d) (hN : d < N) (ht : f2 T.elm t = some (e, sz, bt)) (hz : f2 T.zer e = some z)
    (hp : parts.toList = idxs 0 xs) (hlen : xs.length = len) (hmax : len * sz ≤ 16777216) (hx : xs.map (evA s) = ys.map some) (hok : ys.all okA = true) (hsz : ys.all (fun y => Nat.beq (cellsA y).length sz) = true)
    (hK : ∀ g, K ((d, .v (.slice (some ⟨g, 0, none⟩) len len)) :: s) (.rw (.slice (some ⟨g, 0, none⟩) len len) e sz (ys.map cellsA) :: h)) : AOp P N o md s h K := fun B w S a hs Kr Qr hk => by
  obtain ⟨j, hu, hj, hjs, _, hne⟩ := T.elm_at ht
  have h1 := zOk_at T.zerOk hz
  obtain ⟨i, hi, hiz⟩ := Option.map_eq_some_iff.1 h1
  rw [hj] at hi
  simp at hi
  subst hi
  have hvs := hs.slots.evals hx
  have hlv : (xs.map a.eval).length = len := by simpa using hlen
  have hone : ∀ v ∈ xs.map a.eval, v.cells.size = sz := fun v hv => by
    obtain ⟨q, hq, rfl⟩ := List.getElem_of_mem hv
    have hq' : q < ys.length := by rw [hvs.1]; exact hq
    have hr := hvs.2 q ys[q] _ (List.getElem?_eq_getElem hq') (List.getElem?_eq_getElem hq)
    have h2 := (cellsA_rel hr (List.all_eq_true.1 hok _ (List.getElem_mem hq'))).1
    have h3 := Nat.eq_of_beq_eq_true (List.all_eq_true.1 hsz _ (List.getElem_mem hq'))
    have h4 := h2.symm.trans h3
    rwa [Array.length_toList] at h4
  have hmapp : (parts.map fun p => (p.1, a.eval p.2)).toList = idxs 0 (xs.map a.eval) := by
    rw [Array.toList_map, hp]
    clear hp hlen hx hvs hlv hone
    generalize 0 = k
    induction xs generalizing k with
    | nil => rfl
    | cons x xs ih => simp only [idxs, List.map_cons, ih]
  obtain ⟨cells, hfill, hcells⟩ := fill_rows sz (xs.map a.eval) 0 [] ((Array.range (len * sz)).map ((if len * sz = 0 then #[] else z.cells)[· % (if len * sz = 0 then #[] else z.cells).size]!)) (by simp) hone (by simp) (by simp [hlv])
  have hrun : (execOp a.eval o).run P w = .ok (.value (.slice (some ⟨w.heap.size, 0, none⟩) len len)) (w.alloc (.cells cells e)) := by
    have hmap' : (Array.map (fun x => match x with | (i, x) => (i, a.eval x)) parts) = (parts.map fun p => (p.1, a.eval p.2)) := rfl
    by_cases h0 : len * sz = 0
    · rw [if_pos h0] at hfill
      simp only [execOp, ho, hmap', Instr.buildSlice, Sem.run_bind, run_underlying hu, Result.andThen_ok, run_sizeOf' hj, hjs, if_neg (show ¬ len * sz > 2 ^ 24 by omega), if_pos h0, Sem.run_pure, hmapp, hfill]
      simp [newRow]
    · rw [if_neg h0] at hfill
      simp only [execOp, ho, hmap', Instr.buildSlice, Sem.run_bind, run_underlying hu, Result.andThen_ok, run_sizeOf' hj, hjs, if_neg (show ¬ len * sz > 2 ^ 24 by omega), if_neg h0, Sem.run_pure, hmapp, zeroValue, typeInfo, run_program, hj, hiz, hfill]
      simp [newRow]
  unfold wpX
  rw [hd] at hk
  rw [hrun, Oper.uponIn_value, hd]
  have hold := fun b hb => alloc_old w (.cells cells e) b hb
  have hflat : VRels w S (ys.map cellsA).flatten cells.toList := by
    rw [hcells]
    simp only [List.nil_append]
    have : ∀ (ys : List AV) (vs : List Value), VRels w S ys vs → (∀ y ∈ ys, okA y = true) → VRels w S (ys.map cellsA).flatten (vs.map fun v => v.cells.toList).flatten := by
      intro ys
      induction ys with
      | nil => intro vs hv _; rw [List.length_eq_zero_iff.1 hv.1.symm]; exact .nil
      | cons y ys ih =>
        intro vs hv hok
        cases vs with
        | nil => have := hv.1; simp at this
        | cons v vs =>
          simp only [List.map_cons, List.flatten_cons]
          exact (cellsA_rel (hv.2 0 y v rfl rfl) (hok y (by simp))).append (ih vs ⟨by have := hv.1; simpa using this, fun j x y hx hy => hv.2 (j + 1) x y (by simpa using hx) (by simpa using hy)⟩ (fun y hy => hok y (by simp [hy])))
    exact this ys _ hvs (List.all_eq_true.1 hok)
  have hyl : ys.length = len := by rw [hvs.1]; exact hlv
  have hcs : cells.size = len * sz := by
    have h4 := hflat.1
    have h5 : (ys.map cellsA).flatten.length = ys.length * sz := by
      have : ∀ ys : List AV, (∀ y ∈ ys, (cellsA y).length = sz) → (ys.map cellsA).flatten.length = ys.length * sz := by
        intro ys
        induction ys with
        | nil => simp
        | cons y ys ih => intro hy; simp only [List.map_cons, List.flatten_cons, List.length_append, List.length_cons, Nat.add_mul, ih (fun y h => hy y (by simp [h])), hy y (by simp)]; omega
      exact this ys (fun y hy => Nat.eq_of_beq_eq_true (List.all_eq_true.1 hsz y hy))
    rw [h5, hyl] at h4
    simpa using h4.symm
  refine hk _ _ S _ _ (hK w.heap.size) ((hs.push (w' := w.alloc (.cells cells e)) (grw_alloc _ _) (e := .rw (.slice (some ⟨w.heap.size, 0, none⟩) len len) e sz (ys.map cellsA)) ⟨cells.toList, ?_, hflat.mono (fun _ h => h) (fun b hb => hold b (hs.lt b hb)), ?_⟩ (fun g hg => by simp [Ent.blk, Value.ownBlock] at hg; omega)).put (.v _) hN) (upd_push (by simp) hold)
  · have := World.ownsRow_lit (base := 0) (e := e) (size := sz) w cells len (Nat.zero_le _) (by unfold maxLen; have : len ≤ len * sz := Nat.le_mul_of_pos_right _ (by omega); omega) hcs
    simpa [hyl] using this
  · intro r hr
    obtain ⟨y, hy, rfl⟩ := List.mem_map.1 hr
    exact Nat.eq_of_beq_eq_true (List.all_eq_true.1 hsz y hy)
end
end Go.Tl
namespace Go.Tl
open Go Go.RowKit
set_option linter.unusedVariables false
set_option linter.unusedSimpArgs false
theorem Pick.subH {h h1 : List Ent} {e e' : Ent} (hp : Pick h e h1) : ∃ h2, Repl h e e' h2 ∧ SubH (e' :: h1) h2 := by
  have refl : ∀ l : List Ent, SubH l l := by
    intro l
    induction l with
    | nil => exact .nil
    | cons x l ih => exact .cons .here ih
  induction hp with
  | @here x l => exact ⟨e' :: l, .here, refl _⟩
  | @there x z l l' hp ih =>
    obtain ⟨h2, hr, hs⟩ := ih
    refine ⟨z :: h2, .there hr, ?_⟩
    cases hs with
    | cons hp' hs' => exact .cons (.there hp') (.cons .here hs')
section
variable {B : Base} {N : Nat} {w : World} {S : Nat → Prop} {s : Slots} {h h1 : List Ent} {a : Act}
theorem Sim.move (H : Sim B N w S s h a) {w' : World} {e e' : Ent} (hp : Pick h e h1) (hg : Grw w w' e.blk)
    (he : ERel w' S e') (hb : ∀ g, e'.blk g → e.blk g ∨ w.heap.size ≤ g) : Sim B N w' S s (e' :: h1) a := by
  obtain ⟨h2, hr, hs⟩ := hp.subH (e' := e')
  have H2 := H.repl hr hg he hb
  exact ⟨H2.ext, H2.defs.keep (fun _ _ _ => rfl) (fun _ h => .inl h) (fun e he r hb => .inl ⟨e, hs.mem e he, hb⟩), H2.size, H2.slots, H2.lt, hs.heap H2.heap, fun z hz => H2.live z (hs.mem z hz), H2.off⟩
end
def Ghost (s : Slots) (h : List Ent) (s' : Slots) (h' : List Ent) : Prop := ∀ (B : Base) (N : Nat) (w : World) (S : Nat → Prop) (a : Act), Sim B N w S s h a → ∃ S', Sim B N w S' s' h' a ∧ ∀ b, S b → S' b
theorem awp_ghost {P : Program} {N : Nat} {ro : Option Nat} {c : Code} {Q : Exit → Slots → List Ent → Prop} {s s' : Slots} {h h' : List Ent} (G : Ghost s h s' h') (H : AWP P N ro c Q s' h') : AWP P N ro c Q s h := fun B w S a hs => by
  obtain ⟨S', hs', _⟩ := G B N w S a hs
  exact H B w S' a hs'
theorem Ghost.trans {s s' s'' : Slots} {h h' h'' : List Ent} (G : Ghost s h s' h') (G' : Ghost s' h' s'' h'') : Ghost s h s'' h'' := fun B N w S a hs => by
  obtain ⟨S', hs', k⟩ := G B N w S a hs
  obtain ⟨S'', hs'', k'⟩ := G' B N w S' a hs'
  exact ⟨S'', hs'', fun b hb => k' b (k b hb)⟩
theorem Ghost.refl {s : Slots} {h : List Ent} : Ghost s h s h := fun B N w S a hs => ⟨S, hs, fun _ h => h⟩
theorem ghost_nilrow {s : Slots} {h : List Ent} (E sz : Nat) : Ghost s h s (.rw (.slice none 0 0) E sz [] :: h) := fun B N w S a hs =>
  ⟨S, hs.push .refl ⟨[], ⟨by simp, .inl ⟨rfl, rfl⟩⟩, .nil, by simp⟩ (fun g hg => by simp [Ent.blk, Value.ownBlock] at hg), fun _ h => h⟩
theorem ofTr_inv {w : World} {S : Nat → Prop} {t : Tr} {v : Value} (h : VRel w S (AV.ofTr t) v) : TRel w S t v := by
  cases t with
  | sc u => have := h.lit_inv; subst this; exact .sc _
  | sl cp sz n f => cases h with | t h => exact h
theorem row_tree {w : World} {S : Nat → Prop} {v : Value} {E sz n : Nat} {rows : List (List AV)} {f : Nat → List Tr} (he : ERel w S (.rw v E sz rows)) (hn : rows.length = n) (hf : ∀ k, k < n → rows.getD k [] = (f k).map AV.ofTr) :
    TRel w (fun b => S b ∨ v.ownBlock = some b) (.sl true sz n f) v := by
  obtain ⟨xs, hown, hr, hl⟩ := he
  have hc := @World.ownsRow.cells _ _ _ _ _ _ _ hown
  subst hn
  rcases hown.2 with ⟨rfl, h0⟩ | ⟨g, cap, cur, rfl, _, hg, hcap, _, hsz, htk⟩
  · rw [h0]
    exact .sl (fun _ _ => undef) (fun _ => Nat.le_refl _) (fun k hk => absurd hk (by omega)) (fun k hk => absurd hk (by omega)) (fun k j x hk => absurd hk (by omega))
  · have hlk : ∀ k, k < rows.length → (f k).length = sz := fun k hk => by
      have h1 := hf k hk
      have h2 : rows.getD k [] ∈ rows := by rw [List.getD_eq_getElem?_getD, List.getElem?_eq_getElem hk]; exact List.getElem_mem hk
      have h3 := hl _ h2
      rw [h1] at h3
      simpa using h3
    have hxl : xs.length = rows.length * sz := hown.1
    have hcell : ∀ k j, k < rows.length → j < sz → ∃ u, xs[k * sz + j]? = some u := fun k j hk hj => by
      have : k * sz + j < xs.length := by
        rw [hxl]
        calc k * sz + j < k * sz + sz := by omega
          _ = (k + 1) * sz := by rw [Nat.add_mul]; omega
          _ ≤ rows.length * sz := Nat.mul_le_mul_right _ hk
      exact ⟨_, List.getElem?_eq_getElem this⟩
    refine .sl (fun k j => xs.getD (k * sz + j) undef) (fun _ => hcap) hlk (fun k hk => ⟨g, 0, rfl, .inr rfl, fun j hj => ?_⟩) (fun k j x hk hx => ?_)
    · obtain ⟨u, hu⟩ := hcell k j hk hj
      have h4 := hc (g := g) rfl _ _ hu
      rw [Addr.add_lit] at h4
      rw [Nat.zero_add] at h4 ⊢
      rw [h4, List.getD_eq_getElem?_getD, hu]
      rfl
    · have hj : j < sz := by rw [← hlk k hk]; exact (List.getElem?_eq_some_iff.1 hx).1
      obtain ⟨u, hu⟩ := hcell k j hk hj
      have h5 : rows.flatten[k * sz + j]? = some (AV.ofTr x) := by rw [flat_get hl k j hk hj, hf k hk, List.getElem?_map, hx]; rfl
      have h6 := hr.2 _ _ _ h5 hu
      show TRel w _ x (xs.getD (k * sz + j) undef)
      rw [List.getD_eq_getElem?_getD, hu]
      exact (ofTr_inv h6).mono (fun _ h => .inl h) (fun _ _ => rfl)
theorem ghost_freeze {s : Slots} {h h1 : List Ent} {v : Value} {E sz n d : Nat} {rows : List (List AV)} (f : Nat → List Tr) (hp : Pick h (.rw v E sz rows) h1) (hd : look s d = some (.v v)) (hn : rows.length = n) (hf : ∀ k, k < n → rows.getD k [] = (f k).map AV.ofTr) :
    Ghost s h ((d, .t (.sl true sz n f)) :: s) h1 := fun B N w S a hs => by
  have hmem : Ent.rw v E sz rows ∈ h := by obtain ⟨x, y, rfl, _⟩ := hp.split; simp
  have ht := row_tree (hs.heap.ent _ hmem) hn hf
  have hs' := hs.freeze hp
  refine ⟨_, ⟨hs'.ext, hs'.defs, hs'.size, fun e x hx => ?_, hs'.lt, hs'.heap, hs'.live, hs'.off⟩, fun _ h => .inl h⟩
  simp only [look] at hx
  cases hb : Nat.beq d e with
  | true =>
    rw [hb] at hx
    simp at hx
    subst hx
    obtain ⟨u, hu, hr⟩ := hs.slots d _ hd
    rw [← Nat.eq_of_beq_eq_true hb]
    rw [hr.lit_inv] at hu
    exact ⟨v, hu, .t ht⟩
  | false =>
    rw [hb] at hx
    exact hs'.slots e x hx
theorem ghost_freeze_cell {s : Slots} {h h1 h2 : List Ent} {v : Value} {E sz n g j : Nat} {T : TypeId} {cs cs' : List AV} {rows : List (List AV)} (f : Nat → List Tr) (hp : Pick h (.rw v E sz rows) h1) (hr : Repl h1 (.cl g T cs) (.cl g T cs') h2) (hd : cs[j]? = some (.v v)) (hcs : cs.set j (.t (.sl true sz n f)) = cs') (hn : rows.length = n)
    (hf : ∀ k, k < n → rows.getD k [] = (f k).map AV.ofTr) : Ghost s h s h2 := fun B N w S a hs => by
  have hmem : Ent.rw v E sz rows ∈ h := by obtain ⟨x, y, rfl, _⟩ := hp.split; simp
  have ht := row_tree (hs.heap.ent _ hmem) hn hf
  have hs' := hs.freeze hp
  have hm2 : Ent.cl g T cs ∈ h1 := by obtain ⟨x, y, rfl, _⟩ := hr.split; simp
  obtain ⟨vs, hvs, hrel⟩ := hs'.heap.ent _ hm2
  obtain ⟨u, hu, hur⟩ := hrel.get hd
  have hset : vs.set j v = vs := by
    rw [hur.lit_inv] at hu
    obtain ⟨hj, e⟩ := List.getElem?_eq_some_iff.1 hu
    rw [← e]; simp
  refine ⟨_, hs'.repl hr .refl ⟨vs, hvs, ?_⟩ (fun g' h' => .inl h'), fun _ h => .inl h⟩
  subst hcs
  have := hrel.set (j := j) (.t ht : VRel w _ (.t (.sl true sz n f)) v)
  rwa [hset] at this
section
variable {P : Program} {N : Nat} {o : Oper} {md : Nat → Prop} {s : Slots} {h h1 : List Ent} {K : Slots → List Ent → Prop}
theorem app_core (T : TT P) {t e sz bt : Nat} {z : Value} (ht : f2 T.elm t = some (e, sz, bt)) (hz : f2 T.zer e = some z) (hzs : z.cells.size = sz) (hbt : bt ≤ 1000) {w : World} {S : Nat → Prop} {v : Value} {rows news : List (List AV)} {m c : Nat} {ad : Addr} {us : List Value} {ty : TypeId}
    (he : ERel w S (.rw v e sz rows)) (hu : VRels w S news.flatten us) (hl : us.length = m * sz) (hm : news.length = m) (hcell : ∀ j u, us[j]? = some u → w.cell? (ad.add j) = some u) (hone : ∀ u ∈ us, u.oneCell' = true) (hb : rows.length + m ≤ 1000000) (hr : ∀ r ∈ news, r.length = sz)
    (hS : ∀ b, S b → b < w.heap.size ∧ v.ownBlock ≠ some b) :
    ∃ ad' cap w', (Builtin.append_ #[t, t] ty #[v, .slice (some ad) m c]).run P w = .ok (.slice ad' (rows.length + m) cap) w' ∧ ERel w' S (.rw (.slice ad' (rows.length + m) cap) e sz (rows ++ news)) ∧ w.grownBy w' v.ownBlock ∧
      (∀ g, Value.ownBlock (.slice ad' (rows.length + m) cap) = some g → v.ownBlock = some g ∨ w.heap.size ≤ g) ∧ (0 < m → ∃ g, ad' = some ⟨g, 0, none⟩) := by
  obtain ⟨j, hund, hj, hjs, hjb, hne⟩ := T.elm_at ht
  have h1 := zOk_at T.zerOk hz
  obtain ⟨i, hi, hiz⟩ := Option.map_eq_some_iff.1 h1
  rw [hj] at hi
  simp at hi
  subst hi
  obtain ⟨xs, hown, hxr, hlr⟩ := he
  have hbytes : (rows.length + m) * bt ≤ 140737488355328 := by
    calc (rows.length + m) * bt ≤ 1000000 * 1000 := Nat.mul_le_mul hb hbt
      _ ≤ 140737488355328 := by omega
  have h63 : rows.length + m ≤ maxLen := by unfold maxLen; omega
  rcases Nat.eq_zero_or_pos m with h0 | h0
  · subst h0
    have hus : us = [] := List.length_eq_zero_iff.1 (by rw [hl]; simp)
    have hnews : news = [] := List.length_eq_zero_iff.1 hm
    subst hnews
    have hf0 : (Builtin.firstCells sz 0 (.slice (some ad) 0 c)).run P w = .ok #[] w := by simp [Builtin.firstCells, loadCells, loadCellsFrom]
    have hform : ∃ ad' cap, v = .slice ad' rows.length cap ∧ rows.length ≤ cap := by
      rcases hown.2 with ⟨e1, e2⟩ | ⟨g, cap, cur, e1, _, _, e2, _⟩
      · exact ⟨none, 0, by rw [e1, e2], by omega⟩
      · exact ⟨_, cap, e1, e2⟩
    obtain ⟨ad', cap, rfl, hcap⟩ := hform
    refine ⟨ad', cap, w, ?_, by simpa using ⟨xs, hown, hxr, hlr⟩, World.grownBy.refl _ _, fun g hg => .inl hg, fun h => absurd h (by omega)⟩
    have hx : (Builtin.append_ #[t, t] ty #[.slice ad' rows.length cap, .slice (some ad) 0 c]).run P w = .ok (.slice ad' rows.length cap) w := by
      cases ad' <;> simp [Builtin.append_, run_underlying hund, run_sizeOf' hj, hjs, Builtin.lenOf, hcap, hf0, storeCells]
    simpa using hx
  · obtain ⟨g, cap, w', hrun, ho', hg', hat, hlt⟩ := run_append_lies (P := P) w t ty 0 e j z sz bt hund hj hiz hjs hjb hzs (by omega) v rows.length xs hown ad m c us hl hcell hone h0 h63 hbytes (Nat.zero_le _) w.heap.size rfl
    have hkS : ∀ b, S b → w'.heap[b]? = w.heap[b]? := fun b hb => hg'.block b (hS b hb).1 (fun e0 => (hS b hb).2 e0.symm)
    refine ⟨some ⟨g, 0, none⟩, cap, w', hrun, ⟨xs ++ us, by rw [List.length_append, hm]; exact ho', ?_, fun r hr' => ?_⟩, hg', fun g' hg1 => ?_, fun _ => ⟨g, rfl⟩⟩
    · rw [List.flatten_append]
      exact (hxr.append hu).mono (fun _ h => h) hkS
    · rcases List.mem_append.1 hr' with h2 | h2
      · exact hlr r h2
      · exact hr r h2
    · simp [Value.ownBlock] at hg1
      subst hg1
      rcases hat with h2 | h2
      · exact .inl h2
      · exact .inr (by omega)
theorem Sim.notS {B : Base} {w : World} {S : Nat → Prop} {a : Act} (H : Sim B N w S s h a) {e : Ent} (hm : e ∈ h) : ∀ b, S b → b < w.heap.size ∧ ¬ e.blk b := fun b hb => ⟨H.lt b hb, fun e0 => H.heap.off e hm b e0 hb⟩
theorem aop_append (T : TT P) {t d e sz bt m c g' : Nat} {z v : Value} {x y : Operand} {rows news : List (List AV)} (ho : o.op = .call { callee := .builtin .append, args := #[x, y], argTypes := #[t, t] }) (hd : o.dst = some d) (hN : d < N)
    (ht : f2 T.elm t = some (e, sz, bt)) (hz : f2 T.zer e = some z) (hzs : z.cells.size = sz) (hbt : Nat.ble bt 1000 = true) (hx : evA s x = some (.v v)) (hy : evA s y = some (.v (.slice (some ⟨g', 0, none⟩) m c)))
    (hp : Pick h (.rw v e sz rows) h1) (hq : Mem1 (.rw (.slice (some ⟨g', 0, none⟩) m c) e sz news) h) (hm : news.length = m) (hb : rows.length + m ≤ 1000000) (hone : ∀ r ∈ news, ∀ u ∈ r, oneA u = true) (hmd : ∀ b, v.ownBlock = some b → md b)
    (hK : ∀ ad cap, (0 < m → ∃ g, ad = some ⟨g, 0, none⟩) → K ((d, .v (.slice ad (rows.length + m) cap)) :: s) (.rw (.slice ad (rows.length + m) cap) e sz (rows ++ news) :: h1)) : AOp P N o md s h K := fun B w S a hs Kr Qr hk => by
  have hmem : Ent.rw v e sz rows ∈ h := by obtain ⟨p, q, rfl, _⟩ := hp.split; simp
  obtain ⟨us, hown2, hu, hlu⟩ := hs.heap.ent _ hq.mem
  have hc2 := @World.ownsRow.cells _ _ _ _ _ _ _ hown2
  obtain ⟨ad, cap, w', hrun, he', hg', hblk, hpos⟩ := app_core T ht hz hzs (Nat.le_of_ble_eq_true hbt) (ty := o.type) (hs.heap.ent _ hmem) hu (by rw [← hm]; exact hown2.1) hm (fun j u hj => hc2 rfl j u hj) (fun u hu' => by
      have := ones_rel hu (fun c hc => by
        obtain ⟨r, hr, hcr⟩ := List.mem_flatten.1 hc
        exact hone r hr c hcr)
      exact this u hu') hb hlu (hs.notS hmem) (c := c)
  have hrun2 : (execOp a.eval o).run P w = .ok (.value (.slice ad (rows.length + m) cap)) w' := by
    simp [execOp, ho, resolve, invoke, builtin, hs.slots.lit hx, hs.slots.lit hy, hrun]
  unfold wpX
  rw [hd] at hk
  rw [hrun2, Oper.uponIn_value, hd]
  exact hk _ _ S _ _ (hK ad cap hpos) ((hs.move hp (.of hg' (fun _ e => e)) he' hblk).put (.v _) hN) ⟨hg'.size, fun b hb hnb => hg'.block b hb (fun e0 => hnb (hmd b e0.symm)), fun _ h => h⟩
theorem aop_append_t (T : TT P) {t d e sz bt m : Nat} {z v : Value} {x y : Operand} {rows : List (List AV)} {cp : Bool} {f : Nat → List Tr} (ho : o.op = .call { callee := .builtin .append, args := #[x, y], argTypes := #[t, t] }) (hd : o.dst = some d) (hN : d < N)
    (ht : f2 T.elm t = some (e, sz, bt)) (hz : f2 T.zer e = some z) (hzs : z.cells.size = sz) (hbt : Nat.ble bt 1000 = true) (hx : evA s x = some (.v v)) (hy : evA s y = some (.t (.sl cp sz m f)))
    (hp : Pick h (.rw v e sz rows) h1) (hb : rows.length + m ≤ 1000000) (hone : ∀ k, k < m → ∀ u ∈ f k, oneA (AV.ofTr u) = true) (hmd : ∀ b, v.ownBlock = some b → md b)
    (hK : ∀ ad cap, (0 < m → ∃ g, ad = some ⟨g, 0, none⟩) → K ((d, .v (.slice ad (rows.length + m) cap)) :: s) (.rw (.slice ad (rows.length + m) cap) e sz (rows ++ (List.range m).map fun k => (f k).map AV.ofTr) :: h1)) : AOp P N o md s h K := fun B w S a hs Kr Qr hk => by
  have hmem : Ent.rw v e sz rows ∈ h := by obtain ⟨p, q, rfl, _⟩ := hp.split; simp
  have hye := hs.slots.eval hy
  generalize hev : a.eval y = u0 at *
  cases hye with
  | t hT =>
    cases hT with
    | @sl _ _ _ _ a0 c val hc hl hh ih =>
      have main : ∃ ad cap w', (Builtin.append_ #[t, t] o.type #[v, .slice a0 m c]).run P w = .ok (.slice ad (rows.length + m) cap) w' ∧ ERel w' S (.rw (.slice ad (rows.length + m) cap) e sz (rows ++ (List.range m).map fun k => (f k).map AV.ofTr)) ∧ w.grownBy w' v.ownBlock ∧
          (∀ g, Value.ownBlock (.slice ad (rows.length + m) cap) = some g → v.ownBlock = some g ∨ w.heap.size ≤ g) ∧ (0 < m → ∃ g, ad = some ⟨g, 0, none⟩) := by
        rcases Nat.eq_zero_or_pos m with h0 | h0
        · subst h0
          obtain ⟨j, hund, hj, hjs, hjb, hne⟩ := T.elm_at ht
          obtain ⟨xs, hown, hxr, hlr⟩ := hs.heap.ent _ hmem
          have hf0 : (Builtin.firstCells sz 0 (.slice a0 0 c)).run P w = .ok #[] w := by cases a0 <;> simp [Builtin.firstCells, loadCells, loadCellsFrom]
          have hform : ∃ ad' cap, v = .slice ad' rows.length cap ∧ rows.length ≤ cap := by
            rcases hown.2 with ⟨e1, e2⟩ | ⟨g, cap, cur, e1, _, _, e2, _⟩
            · exact ⟨none, 0, by rw [e1, e2], by omega⟩
            · exact ⟨_, cap, e1, e2⟩
          obtain ⟨ad', cap, rfl, hcap⟩ := hform
          refine ⟨ad', cap, w, ?_, by simpa using ⟨xs, hown, hxr, hlr⟩, World.grownBy.refl _ _, fun g hg => .inl hg, fun h => absurd h (by omega)⟩
          have hx2 : (Builtin.append_ #[t, t] o.type #[.slice ad' rows.length cap, .slice a0 0 c]).run P w = .ok (.slice ad' rows.length cap) w := by
            cases ad' <;> simp [Builtin.append_, run_underlying hund, run_sizeOf' hj, hjs, Builtin.lenOf, hcap, hf0, storeCells]
          simpa using hx2
        · obtain ⟨b, off, rfl, hb0, _⟩ := hh 0 h0
          have hh' : ∀ k, k < m → ∀ j, j < sz → w.cell? ⟨b, off + k * sz + j, none⟩ = some (val k j) := fun k hk j hj => by
            obtain ⟨b', off', e1, _, h3⟩ := hh k hk
            simp at e1
            obtain ⟨rfl, rfl⟩ := e1
            exact h3 j hj
          have hsz : sz ≠ 0 := by obtain ⟨_, _, _, _, _, hne⟩ := T.elm_at ht; exact hne
          have hU : VRels w S ((List.range m).map fun k => (f k).map AV.ofTr).flatten ((List.range m).map fun k => (List.range sz).map (val k)).flatten := by
            have : ∀ l : List Nat, (∀ k ∈ l, k < m) → VRels w S (l.map fun k => (f k).map AV.ofTr).flatten (l.map fun k => (List.range sz).map (val k)).flatten := by
              intro l
              induction l with
              | nil => intro _; exact .nil
              | cons k l ihl =>
                intro hk
                simp only [List.map_cons, List.flatten_cons]
                refine VRels.append (VRels.ofTr (by simp [hl k (hk k (by simp))]) (fun j x v hx hv => ?_)) (ihl (fun k' h' => hk k' (by simp [h'])))
                rw [List.getElem?_map] at hv
                have hj : j < sz := by rw [← hl k (hk k (by simp))]; exact (List.getElem?_eq_some_iff.1 hx).1
                rw [List.getElem?_range hj] at hv
                simp at hv
                subst hv
                exact ih k j x (hk k (by simp)) hx
            exact this _ (fun k hk => List.mem_range.1 hk)
          have hlen : ((List.range m).map fun k => (List.range sz).map (val k)).flatten.length = m * sz := by
            rw [List.length_flatten]; simp [List.map_const', Function.comp_def]
          refine app_core T ht hz hzs (Nat.le_of_ble_eq_true hbt) (ty := o.type) (c := c) (hs.heap.ent _ hmem) hU hlen (by simp) (fun q u hq => ?_) (fun u hu => ?_) hb (fun r hr => ?_) (hs.notS hmem)
          · have hqlt : q < m * sz := by rw [← hlen]; exact (List.getElem?_eq_some_iff.1 hq).1
            have hk : q / sz < m := (Nat.div_lt_iff_lt_mul (by omega)).2 hqlt
            have hj : q % sz < sz := Nat.mod_lt _ (by omega)
            have e2 : q = q / sz * sz + q % sz := by rw [Nat.mul_comm]; exact (Nat.div_add_mod q sz).symm
            rw [Addr.add_lit, show off + q = off + q / sz * sz + q % sz by omega, hh' _ hk _ hj]
            have hfl : ∀ (l : List Nat) (i j : Nat), i < l.length → j < sz → (l.map fun k => (List.range sz).map (val k)).flatten[i * sz + j]? = some (val (l.getD i 0) j) := by
              intro l
              induction l with
              | nil => intro i j hi; simp at hi
              | cons k l ihl =>
                intro i j hi hj
                cases i with
                | zero => simp [List.getElem?_append, hj]
                | succ i =>
                  have e3 : (i + 1) * sz + j = sz + (i * sz + j) := by rw [Nat.add_mul]; omega
                  simp only [List.map_cons, List.flatten_cons]
                  rw [e3, List.getElem?_append_right (by simp)]
                  simp only [List.length_map, List.length_range, Nat.add_sub_cancel_left]
                  rw [ihl i j (by simpa using hi) hj]
                  simp
            rw [e2, hfl _ _ _ (by simpa using hk) hj] at hq
            rw [← hq]
            simp [List.getD_eq_getElem?_getD, hk]
          · have := ones_rel hU (fun cc hcc => by
              obtain ⟨r, hr, hcr⟩ := List.mem_flatten.1 hcc
              obtain ⟨k, hk, rfl⟩ := List.mem_map.1 hr
              obtain ⟨x, hx', rfl⟩ := List.mem_map.1 hcr
              exact hone k (List.mem_range.1 hk) x hx')
            exact this u hu
          · obtain ⟨k, hk, rfl⟩ := List.mem_map.1 hr
            simp [hl k (List.mem_range.1 hk)]
      obtain ⟨ad, cap, w', hrun, he', hg', hblk, hpos⟩ := main
      have hrun2 : (execOp a.eval o).run P w = .ok (.value (.slice ad (rows.length + m) cap)) w' := by
        simp [execOp, ho, resolve, invoke, builtin, hs.slots.lit hx, hev, hrun]
      unfold wpX
      rw [hd] at hk
      rw [hrun2, Oper.uponIn_value, hd]
      exact hk _ _ S _ _ (hK ad cap hpos) ((hs.move hp (.of hg' (fun _ e => e)) he' hblk).put (.v _) hN) ⟨hg'.size, fun b hb hnb => hg'.block b hb (fun e0 => hnb (hmd b e0.symm)), fun _ h => h⟩
end
end Go.Tl
namespace Go.Tl
open Go Go.RowKit
set_option linter.unusedVariables false
set_option linter.unusedSimpArgs false
section
variable {P : Program} {N : Nat} {o : Oper} {md : Nat → Prop} {s : Slots} {h h1 : List Ent} {K : Slots → List Ent → Prop}
end
end Go.Tl
namespace Go.Tl
open Go Go.RowKit
set_option linter.unusedVariables false
set_option linter.unusedSimpArgs false
def Own (hc : List Ent) (g : Nat) : Prop := ∃ e, e ∈ hc ∧ e.blk g
def ACall (P : Program) (f : Nat) (args : List AV) (hc : List Ent) (Q : AV → List Ent → Prop) : Prop :=
  ∀ (w : World) (S : Nat → Prop) (vs : List Value), (∀ b, S b → b < w.heap.size) → HRel w S hc → VRels w S args vs →
    Calls P f vs.toArray w fun e w' => ∃ v S' r h', e = .returned v ∧ Q r h' ∧ VRel w' S' r v ∧ Ext ⟨w, S, Own hc⟩ w' S' ∧ (∀ b, S' b → b < w'.heap.size) ∧ HRel w' S' h' ∧ ∀ e ∈ h', ∀ g, e.blk g → Own hc g ∨ w.heap.size ≤ g
def PCall (P : Program) (f : Nat) (args : List AV) (R : AV → Prop) : Prop := ACall P f args [] (fun r h' => R r ∧ h' = [])
theorem ACall.mono {P : Program} {f : Nat} {args : List AV} {hc : List Ent} {Q Q' : AV → List Ent → Prop} (C : ACall P f args hc Q) (h : ∀ r h', Q r h' → Q' r h') : ACall P f args hc Q' := fun w S vs h1 h2 h3 =>
  (C w S vs h1 h2 h3).mono fun e w' ⟨v, S', r, h', e1, hq, rest⟩ => ⟨v, S', r, h', e1, h r h' hq, rest⟩
theorem PCall.mono {P : Program} {f : Nat} {args : List AV} {R R' : AV → Prop} (C : PCall P f args R) (h : ∀ r, R r → R' r) : PCall P f args R' := ACall.mono C fun r h' ⟨h1, h2⟩ => ⟨h r h1, h2⟩
theorem SubH.refl : ∀ l : List Ent, SubH l l
  | [] => .nil
  | x :: l => .cons .here (SubH.refl l)
theorem HRel.left {w : World} {S : Nat → Prop} {hc hf : List Ent} (h : HRel w S (hc ++ hf)) : HRel w S hc :=
  ⟨fun e he => h.ent e (List.mem_append_left _ he), fun e he => h.off e (List.mem_append_left _ he), (List.pairwise_append.1 h.sep).1⟩
def Callee (y : AV) (f : Nat) (fs cs : List AV) : Prop := ∀ (w : World) (S : Nat → Prop) (v : Value), VRel w S y v → ∃ vs us : List Value, v = .func (.func f) vs.toArray us.toArray ∧ VRels w S fs vs ∧ VRels w S cs us
theorem callee_lit {f : Nat} : Callee (.v (.func (.func f) #[] #[])) f [] [] := fun w S v h => ⟨[], [], h.lit_inv, .nil, .nil⟩
theorem callee_v {f : Nat} {a b : List Value} : Callee (.v (.func (.func f) a.toArray b.toArray)) f (a.map AV.v) (b.map AV.v) := fun w S v h => ⟨a, b, h.lit_inv, .lits _, .lits _⟩
theorem callee_fn {f : Nat} {a b : List AV} : Callee (.fn (.func f) a b) f a b := fun w S v h => by
  cases h with
  | fn hl hh hl' hh' => exact ⟨_, _, rfl, ⟨hl, hh⟩, ⟨hl', hh'⟩⟩
section
variable {P : Program} {N : Nat} {o : Oper} {md : Nat → Prop} {s : Slots} {h h1 : List Ent} {K : Slots → List Ent → Prop}
theorem TT.callFunc_at (T : TT P) {f : Nat} (hf : T.fns.any (Nat.beq f) = true) (args : Array Value) (w : World) : (callFunc f args).run P w = .ok (.enter f args) w := by
  obtain ⟨g, hg, e⟩ := List.any_eq_true.1 hf
  have := Nat.eq_of_beq_eq_true e
  subst this
  have hb := List.all_eq_true.1 T.fnsOk _ hg
  simp only [fnB] at hb
  split at hb
  · rename_i fn hfn
    simp only [Bool.and_eq_true, bne_iff_ne] at hb
    obtain ⟨c, hc⟩ := Option.isSome_iff_exists.1 hb.2
    simp [callFunc, hfn, hb.1, hc]
  · cases hb
theorem Sim.call {B : Base} {w w' : World} {S S' : Nat → Prop} {hc hf h' : List Ent} {a : Act} (hs : Sim B N w S s (hc ++ hf) a) (E : Ext ⟨w, S, Own hc⟩ w' S') (hlt : ∀ b, S' b → b < w'.heap.size) (hr : HRel w' S' h')
    (hl : ∀ e ∈ h', ∀ g, e.blk g → Own hc g ∨ w.heap.size ≤ g) : Sim B N w' S' s (h' ++ hf) a := by
  have ownB : ∀ b, Own hc b → B.O b ∨ B.w.heap.size ≤ b := fun b ⟨e, he, hb⟩ => hs.live e (List.mem_append_left _ he) b hb
  have keepS : ∀ b, S b → w'.heap[b]? = w.heap[b]? := fun b hb => E.keep b (hs.lt b hb) (fun ⟨e, he, h2⟩ => hs.heap.off e (List.mem_append_left _ he) b h2 hb)
  have hfnot : ∀ e ∈ hf, ∀ g, e.blk g → ¬ Own hc g := fun e he g hg ⟨e', he', hg'⟩ => (List.pairwise_append.1 hs.heap.sep).2.2 e' he' e he g hg' hg
  have hflt : ∀ e ∈ hf, ∀ g, e.blk g → g < w.heap.size := fun e he g hg => (hs.heap.ent e (List.mem_append_right _ he)).lt g hg
  have hfkeep : ∀ e ∈ hf, ∀ g, e.blk g → w'.heap[g]? = w.heap[g]? := fun e he g hg => E.keep g (hflt e he g hg) (hfnot e he g hg)
  refine ⟨hs.ext.step E.os E.tape E.output ⟨E.size, E.keep, E.stab⟩ ownB E.new, hs.defs.keep (fun r hr hn => E.keep r hr (fun ⟨e, he, hb⟩ => hn e (List.mem_append_left _ he) hb)) (fun r hr => ?_) (fun e he r hr => ?_), hs.size, hs.slots.mono E.stab keepS, hlt, ⟨fun e he => ?_, fun e he g hg hS => ?_, List.pairwise_append.2 ⟨hr.sep, (List.pairwise_append.1 hs.heap.sep).2.1, fun x hx y hy g hg hg' => ?_⟩⟩, fun e he g hg => ?_, hs.off⟩
  · rcases E.new r hr with h1 | h1 | ⟨e, he, h1⟩
    · exact .inl h1
    · exact .inr (.inl h1)
    · exact .inr (.inr ⟨e, List.mem_append_left _ he, h1⟩)
  · rcases List.mem_append.1 he with he | he
    · rcases hl e he r hr with ⟨e', he', h1⟩ | h1
      · exact .inl ⟨e', List.mem_append_left _ he', h1⟩
      · exact .inr h1
    · exact .inl ⟨e, List.mem_append_right _ he, hr⟩
  · rcases List.mem_append.1 he with he | he
    · exact hr.ent e he
    · exact (hs.heap.ent e (List.mem_append_right _ he)).mono E.os E.tape E.output E.size E.stab keepS (hfkeep e he)
  · rcases List.mem_append.1 he with he | he
    · exact hr.off e he g hg hS
    · rcases E.new g hS with h1 | h1 | h1
      · exact hs.heap.off e (List.mem_append_right _ he) g hg h1
      · have := hflt e he g hg; exact absurd h1 (Nat.not_le.2 this)
      · exact hfnot e he g hg h1
  · rcases hl x hx g hg with h1 | h1
    · exact hfnot y hy g hg' h1
    · have := hflt y hy g hg'; omega
  · rcases List.mem_append.1 he with he | he
    · rcases hl e he g hg with h1 | h1
      · exact ownB g h1
      · exact .inr (Nat.le_trans hs.ext.size h1)
    · exact hs.live e (List.mem_append_right _ he) g hg
theorem aop_acall (T : TT P) {x : Operand} {xs : Array Operand} {ts : Array TypeId} {yc : AV} {f d : Nat} {fs cs ys args : List AV} {hc hf : List Ent} {Q : AV → List Ent → Prop} (ho : o.op = .call { callee := .value x, args := xs, argTypes := ts }) (hd : o.dst = some d) (hN : d < N)
    (hcal : evA s x = some yc) (hcl : Callee yc f fs cs) (hx : xs.toList.map (evA s) = ys.map some) (hfn : T.fns.any (Nat.beq f) = true) (hargs : fs ++ ys ++ cs = args) (hsub : SubH (hc ++ hf) h) (C : ACall P f args hc Q) (hmd : ∀ b, Own hc b → md b)
    (hK : ∀ r h', Q r h' → K ((d, r) :: s) (h' ++ hf)) : AOp P N o md s h K := fun B w S a hs Kr Qr hk => by
  have hs0 : Sim B N w S s (hc ++ hf) a := hs.sub hsub
  obtain ⟨vs, us, hev, hvs, hus⟩ := hcl w S _ (hs.slots.eval hcal)
  have hxs := hs.slots.evals hx
  have hrun : (execOp a.eval o).run P w = .ok (.enter f (vs ++ xs.toList.map a.eval ++ us).toArray) w := by
    have e1 : xs.map a.eval = (xs.toList.map a.eval).toArray := by rw [← Array.toList_map]
    simp [execOp, ho, resolve, Deferred.ofValue, invoke, hev, e1, T.callFunc_at hfn]
  unfold wpX
  rw [hrun, Oper.uponIn_enter]
  subst hargs
  refine ⟨fun h => (by cases h), callsIn_wide.2 ((C w S _ hs.lt hs0.heap.left ((hvs.append hxs).append hus)).mono ?_)⟩
  rintro e w' ⟨v, S', r, h', rfl, hq, hvr, E, hlt, hr, hl⟩
  rw [hd] at hk
  rw [hd]
  exact hk _ _ S' _ _ (hK r h' hq) ((hs0.call E hlt hr hl).put hvr hN) ⟨E.size, fun b hb hnb => E.keep b hb (fun ho => hnb (hmd b ho)), E.stab⟩
theorem aop_pcall (T : TT P) {x : Operand} {xs : Array Operand} {ts : Array TypeId} {yc : AV} {f d : Nat} {fs cs ys args : List AV} {R : AV → Prop} (ho : o.op = .call { callee := .value x, args := xs, argTypes := ts }) (hd : o.dst = some d) (hN : d < N)
    (hcal : evA s x = some yc) (hcl : Callee yc f fs cs) (hx : xs.toList.map (evA s) = ys.map some) (hfn : T.fns.any (Nat.beq f) = true) (hargs : fs ++ ys ++ cs = args) (C : PCall P f args R)
    (hK : ∀ r, R r → K ((d, r) :: s) h) : AOp P N o md s h K :=
  aop_acall T (hc := []) (hf := h) ho hd hN hcal hcl hx hfn hargs (SubH.refl h) C (fun b ⟨e, he, _⟩ => by cases he) (fun r h' ⟨h1, h2⟩ => by subst h2; exact hK r h1)
def slotsOf : Nat → List AV → Slots
  | _, [] => []
  | k, x :: r => (k, x) :: slotsOf (k + 1) r
theorem slotsOf_rel {w : World} {S : Nat → Prop} : ∀ (k : Nat) (args : List AV) (vs : List Value) (pre post : List Value), pre.length = k → VRels w S args vs → SRel w S (slotsOf k args) (pre ++ vs ++ post).toArray
  | _, [], vs, pre, post, _, _ => fun d x hx => by simp [slotsOf, look] at hx
  | k, x :: r, [], pre, post, _, hv => by have := hv.1; simp at this
  | k, x :: r, v :: vs, pre, post, hk, hv => fun d y hy => by
    simp only [slotsOf, look] at hy
    cases hb : Nat.beq k d with
    | true =>
      rw [hb] at hy
      simp at hy
      subst hy
      have := Nat.eq_of_beq_eq_true hb
      subst this
      exact ⟨v, by simp [← hk], hv.2 0 x v rfl rfl⟩
    | false =>
      rw [hb] at hy
      have := slotsOf_rel (k + 1) r vs (pre ++ [v]) post (by simp [hk]) ⟨by have := hv.1; simpa using this, fun j a b ha hb' => hv.2 (j + 1) a b (by simpa using ha) (by simpa using hb')⟩ d y hy
      simpa using this
def resR {P : Program} (T : TT P) (s : Slots) (h : List Ent) (y : AV) : ResultVar → Prop
  | .tmp t => look s t = some y
  | .cell c t => ∃ g T' cs n ag, look s c = some (.v (.pointer (some ⟨g, 0, none⟩))) ∧ f2 T.siz t = some (n, ag) ∧ Mem1 (.cl g T' cs) h ∧ n ≤ cs.length ∧ (ag = true ∨ n = 1) ∧ ldA ag n cs = y
inductive resL {P : Program} (T : TT P) (s : Slots) (h : List Ent) : List ResultVar → List AV → Prop where
  | nil : resL T s h [] []
  | cons {v : ResultVar} {y : AV} {vs : List ResultVar} {ys : List AV} (h1 : resR T s h y v) (h2 : resL T s h vs ys) : resL T s h (v :: vs) (y :: ys)
def resA : List AV → AV
  | [y] => y
  | ys => .tup ys
def rvGet (tmps : Array Value) : ResultVar → Sem Value
  | .tmp t => pure (tmps.getD t undef)
  | .cell c t => do loadVar t (← asAddr (tmps.getD c undef))
theorem results_eq (fn : Func) (tmps : Array Value) : results fn tmps = (do let vs ← fn.results.mapM (rvGet tmps); pure (if h : vs.size = 1 then vs[0] else .tuple vs)) := by
  unfold results
  congr 1
theorem resR_run (T : TT P) {B : Base} {w : World} {S : Nat → Prop} {a : Act} (hs : Sim B N w S s h a) {y : AV} {rv : ResultVar} (hr : resR T s h y rv) :
    ∃ v, (rvGet a.tmps rv).run P w = .ok v w ∧ VRel w S y v := by
  cases rv with
  | tmp t =>
    obtain ⟨v, hv, hvr⟩ := hs.slots t y hr
    exact ⟨v, by simp [rvGet, hv], hvr⟩
  | cell c t =>
    obtain ⟨g, T', cs, n, ag, hc, ht, hm, hl, h1, rfl⟩ := hr
    obtain ⟨u, hu, hur⟩ := hs.slots c _ hc
    have := hur.lit_inv
    subst this
    obtain ⟨vs, hvs, hrel⟩ := hs.heap.ent _ hm.mem
    obtain ⟨j, d, hj, hjn, hne, hund, hd⟩ := T.siz_at ht
    have hl2 : n ≤ vs.length := by rw [← hrel.1]; exact hl
    refine ⟨if ag then .agg (vs.take n).toArray else (vs.take n).getD 0 undef, ?_, ldA_rel hrel hl hne⟩
    have := run_loadVar' T ht (w := w) (b := g) (o := 0) (vs := vs.take n) (by simp; omega) (fun e => h1.resolve_left (by rw [e]; simp)) (fun j v hjv => by
      rw [List.getElem?_take] at hjv
      split at hjv
      · simp [World.cell?, hvs, hjv]
      · cases hjv)
    simp [rvGet, hu, asAddr, this]
theorem resL_run (T : TT P) {B : Base} {w : World} {S : Nat → Prop} {a : Act} (hs : Sim B N w S s h a) {rvs : List ResultVar} {ys : List AV} (hr : resL T s h rvs ys) :
    ∃ vs, (rvs.mapM (rvGet a.tmps)).run P w = .ok vs w ∧ VRels w S ys vs := by
  induction hr with
  | nil => exact ⟨[], by simp, .nil⟩
  | cons h1 h2 ih =>
    obtain ⟨v, hv, hvr⟩ := resR_run T hs h1
    obtain ⟨vs, hvs, hrs⟩ := ih
    exact ⟨v :: vs, by rw [List.mapM_cons, Sem.run_bind, hv, Result.andThen_ok, Sem.run_bind, hvs, Result.andThen_ok, Sem.run_pure], .cons hvr hrs⟩
theorem results_run (T : TT P) {B : Base} {w : World} {S : Nat → Prop} {a : Act} (hs : Sim B N w S s h a) {fn : Func} {ys : List AV} (hr : resL T s h fn.results.toList ys) : ∃ v, (results fn a.tmps).run P w = .ok v w ∧ VRel w S (resA ys) v := by
  obtain ⟨vs, hrun, hv⟩ := resL_run T hs hr
  have e : fn.results = fn.results.toList.toArray := by simp
  refine ⟨if h : vs.toArray.size = 1 then vs.toArray[0] else .tuple vs.toArray, ?_, ?_⟩
  · rw [results_eq, e]
    simp only [List.mapM_toArray, Sem.run_bind, Sem.run_map]
    rw [hrun]
    simp
  · match ys, vs, hv with
    | [], [], hv => exact .tup hv.1 hv.2
    | [y], [v], hv => exact hv.2 0 y v rfl rfl
    | y :: y' :: ys, v :: v' :: vs, hv => 
      simp only [List.size_toArray, List.length_cons, Nat.add_eq_right]
      exact .tup hv.1 hv.2
    | [], v :: vs, hv => have := hv.1; simp at this
    | [y], [], hv => have := hv.1; simp at this
    | [y], v :: v' :: vs, hv => have := hv.1; simp at this
    | y :: y' :: ys, [], hv => have := hv.1; simp at this
    | y :: y' :: ys, [v], hv => have := hv.1; simp at this
def bodyQ {P : Program} (T : TT P) (fn : Func) (Q : AV → List Ent → Prop) : Exit → Slots → List Ent → Prop
  | .ret, s, h => ∃ s1 h1, Ghost s h s1 h1 ∧ ∃ ys, resL T s1 h1 fn.results.toList ys ∧ ∃ h', SubH h' h1 ∧ Q (resA ys) h'
  | .normal, s, h => ∃ s1 h1, Ghost s h s1 h1 ∧ ∃ ys, resL T s1 h1 fn.results.toList ys ∧ ∃ h', SubH h' h1 ∧ Q (resA ys) h'
  | _, _, _ => False
theorem Sim.shut {B : Base} {w : World} {S : Nat → Prop} {a : Act} {r : Nat} {ds : List Deferred} (hs : Sim B N w S s h { a with defers := markD r :: ds }) :
    (Instr.takeDeferred r).run P w = .ok [] (w.putObj r (.deferred none)) ∧ Sim B N (w.putObj r (.deferred none)) S s h { a with defers := ds } := by
  obtain ⟨rs, hrs, hnd, hr⟩ := hs.defs
  cases rs with
  | nil => simp at hrs
  | cons r' rs =>
    simp only [List.map_cons, List.cons.injEq, markD, Deferred.mk.injEq, Target.collected.injEq, and_true] at hrs
    obtain ⟨rfl, rfl⟩ := hrs
    obtain ⟨h1, h2, h3, h4⟩ := hr r List.mem_cons_self
    have hoth : ∀ b, b ≠ r → (w.putObj r (.deferred none)).heap[b]? = w.heap[b]? := fun b hb => World.putObj_heap_other hb
    have hS : ∀ b, S b → (w.putObj r (.deferred none)).heap[b]? = w.heap[b]? := fun b hb => hoth b (fun e => h2 (e ▸ hb))
    refine ⟨run_takeDeferred h1, ⟨hs.ext.os, hs.ext.tape, hs.ext.output, by simpa using hs.ext.size, fun b hb hO => (hoth b (fun e => by subst e; exact h3.elim hO (fun h => by omega))).trans (hs.ext.keep b hb hO), hs.ext.stab, hs.ext.new⟩,
      ⟨rs, rfl, (List.nodup_cons.1 hnd).2, fun q hq => ?_⟩, hs.size, hs.slots.mono (fun _ h => h) hS, fun b hb => by simpa using hs.lt b hb, ⟨fun e he => ?_, hs.heap.off, hs.heap.sep⟩, hs.live, hs.off⟩
    · obtain ⟨q1, q2, q3, q4⟩ := hr q (List.mem_cons_of_mem _ hq)
      exact ⟨(hoth q (fun e => (List.nodup_cons.1 hnd).1 (e ▸ hq))).trans q1, q2, q3, q4⟩
    · exact (hs.heap.ent e he).mono rfl rfl rfl (by simp) (fun _ h => h) hS (fun g hg => hoth g (fun e0 => h4 e he (e0 ▸ hg)))
theorem Sim.leaves {B : Base} {w : World} {S : Nat → Prop} {a : Act} {F : Fence} {fn : Func} {R : Ending → World → Prop} (hs : Sim B N w S s h a)
    (hR : ∀ w', Sim B N w' S s h { a with defers := [] } → ∃ v, (results fn a.tmps).run P w' = .ok v w' ∧ R (.returned v) w') : LeavesInM F 0 P fn a.tmps R a.defers .returning w := by
  have key : ∀ (rs : List Nat) (w : World), Sim B N w S s h { a with defers := rs.map markD } → LeavesInM F 0 P fn a.tmps R (rs.map markD) .returning w := by
    intro rs
    induction rs with
    | nil => intro w hs; exact hR w hs
    | cons r rs ih =>
      intro w hs
      obtain ⟨h1, h2⟩ := hs.shut (P := P)
      exact ⟨by simp, .inl ⟨r, _, rfl, h1, ih _ h2⟩⟩
  obtain ⟨rs, e, _⟩ := hs.defs
  rw [e]
  exact key rs w (by rw [← e]; exact hs)
theorem acall_of_awp (T : TT P) {f : Nat} {fn : Func} {c : Code} {args : List AV} {hc : List Ent} {Q : AV → List Ent → Prop} (hf : P.funcs[f]? = some fn) (hb : fn.body = some c) (hN : fn.ntmps = N) (hl : Nat.ble args.length N = true)
    (H : AWP P N none c (bodyQ T fn Q) (slotsOf 0 args) hc) : ACall P f args hc Q := fun w S vs hlt hh hv => by
  have hvl : vs.length ≤ N := by rw [← hv.1]; exact Nat.le_of_ble_eq_true hl
  refine (callsIn_wide (n := 0)).1 (callsIn_of_wp_marks hf hb trivial ?_)
  have hsim : Sim ⟨w, S, Own hc⟩ N w S (slotsOf 0 args) hc { tmps := vs.toArray ++ Array.replicate (fn.ntmps - vs.toArray.size) undef, defers := [] } := by
    refine ⟨⟨rfl, rfl, rfl, Nat.le_refl _, fun _ _ _ => rfl, fun _ h => h, fun _ h => .inl h⟩, .nil, by simp [hN]; omega, ?_, hlt, hh, fun e he g hg => .inl ⟨e, he, hg⟩, fun b hb ⟨e, he, hg⟩ => hh.off e he b hg hb⟩
    have := slotsOf_rel 0 args vs [] (List.replicate (fn.ntmps - vs.length) undef) rfl hv
    rw [show vs.toArray ++ Array.replicate (fn.ntmps - vs.toArray.size) undef = ([] ++ vs ++ List.replicate (fn.ntmps - vs.length) undef).toArray from by apply Array.ext'; simp]
    exact this
  refine Code.wpIn_mono (fun e a' w' hq => ?_) (H _ w S _ hsim)
  obtain ⟨S', s', h', hq, hs'⟩ := hq
  have fin : (∃ s1 h1, Ghost s' h' s1 h1 ∧ ∃ ys, resL T s1 h1 fn.results.toList ys ∧ ∃ h'', SubH h'' h1 ∧ Q (resA ys) h'') → LeavesInM Fence.wide 0 P fn a'.tmps (fun e w' => ∃ v S' r h', e = .returned v ∧ Q r h' ∧ VRel w' S' r v ∧ Ext ⟨w, S, Own hc⟩ w' S' ∧ (∀ b, S' b → b < w'.heap.size) ∧ HRel w' S' h' ∧ ∀ e ∈ h', ∀ g, e.blk g → Own hc g ∨ w.heap.size ≤ g) a'.defers .returning w' := by
    rintro ⟨s1, h1, G, ys, hr, h'', hsub, hQ⟩
    obtain ⟨S1, hs1, _⟩ := G _ _ _ _ _ hs'
    refine hs1.leaves (fun w'' hs'' => ?_)
    obtain ⟨v, hv, hvr⟩ := results_run T hs'' hr
    exact ⟨v, hv, v, S1, resA ys, h'', rfl, hQ, hvr, hs''.ext, hs''.lt, hsub.heap hs''.heap, fun e he g hg => hs''.live e (hsub.mem e he) g hg⟩
  cases e with
  | ret => exact fin hq
  | normal => exact fin hq
  | _ => exact hq.elim
end
end Go.Tl
namespace Go.Tl
open Go Go.RowKit
set_option linter.unusedVariables false
theorem blt_lt {d n : Nat} (h : Nat.blt d n = true) : d < n := Nat.le_of_ble_eq_true h
section
variable {P : Program} {N : Nat} {ro : Option Nat} {o : Oper} {s : Slots} {h : List Ent} {Q : Exit → Slots → List Ent → Prop} {ops : Array Oper} {rest : List Oper}
variable {K : Slots → List Ent → Prop} {id i : Nat} {I : Nat → Slots → List Ent → Prop} {n : Nat}
theorem then_n (H : K s h) : thenQ K Q .normal s h := H
theorem then_x (H : Q (.exit i) s h) : thenQ K Q (.exit i) s h := H
theorem then_r (H : Q .ret s h) : thenQ K Q .ret s h := H
theorem blk_n (H : Q .normal s h) : blockQ id Q .normal s h := H
theorem blk_x (H : Q .normal s h) : blockQ id Q (.exit id) s h := by simpa [blockQ, Nat.beq_refl] using H
theorem blk_y (hi : Nat.beq i id = false) (H : Q (.exit i) s h) : blockQ id Q (.exit i) s h := by simpa [blockQ, hi] using H
theorem blk_r (H : Q .ret s h) : blockQ id Q .ret s h := H
theorem rnd_x (H : Q (.exit i) s h) : roundQ I n Q (.exit i) s h := H
theorem rnd_r (H : Q .ret s h) : roundQ I n Q .ret s h := H
theorem rnd_n (m : Nat) (s' : Slots) (h' : List Ent) (hm : m < n) (hI : I m s' h') (h1 : SubS s' s) (h2 : SubH h' h) : roundQ I n Q .normal s h := ⟨m, s', h', hm, hI, h1, h2⟩
theorem awp_cond_t {c : Operand} {x y : Code} {b : Bool} (hc : evA s c = some (.v (.bool b))) (hb : b = true) (H : AWP P N ro x Q s h) : AWP P N ro (.cond c x y) Q s h := awp_cond hc (fun _ => H) (fun e => by rw [hb] at e; cases e)
theorem awp_cond_f {c : Operand} {x y : Code} {b : Bool} (hc : evA s c = some (.v (.bool b))) (hb : b = false) (H : AWP P N ro y Q s h) : AWP P N ro (.cond c x y) Q s h := awp_cond hc (fun e => by rw [hb] at e; cases e) (fun _ => H)
theorem body_r {T : TT P} {fn : Func} {R : AV → List Ent → Prop} {ys : List AV} {h' : List Ent} (h1 : resL T s h fn.results.toList ys) (h2 : SubH h' h) (h3 : R (resA ys) h') : bodyQ T fn R .ret s h := ⟨s, h, .refl, ys, h1, h', h2, h3⟩
theorem body_p {T : TT P} {fn : Func} {R : AV → Prop} {ys : List AV} (h1 : resL T s h fn.results.toList ys) (h3 : R (resA ys)) : bodyQ T fn (fun r h' => R r ∧ h' = []) .ret s h := ⟨s, h, .refl, ys, h1, [], .nil, h3, rfl⟩
theorem bodyQ_ghost {T : TT P} {fn : Func} {R : AV → List Ent → Prop} {e : Exit} {s1 : Slots} {h1 : List Ent} (G : Ghost s h s1 h1) (H : bodyQ T fn R e s1 h1) : bodyQ T fn R e s h := by
  cases e with
  | normal => obtain ⟨s2, h2, G', r⟩ := H; exact ⟨s2, h2, G.trans G', r⟩
  | ret => obtain ⟨s2, h2, G', r⟩ := H; exact ⟨s2, h2, G.trans G', r⟩
  | _ => exact H.elim
theorem wr64 {x : Int} (h : -9223372036854775808 ≤ x ∧ x ≤ 9223372036854775807) : IntKind.i64.wrap x = x := IntWalk.i64_in x h
end
inductive OfTrs : List Tr → List AV → Prop where
  | nil : OfTrs [] []
  | sc {v : Value} {r : List Tr} {q : List AV} (h : OfTrs r q) : OfTrs (.sc v :: r) (.v v :: q)
  | sl {cp : Bool} {sz n : Nat} {f : Nat → List Tr} {r : List Tr} {q : List AV} (h : OfTrs r q) : OfTrs (.sl cp sz n f :: r) (.t (.sl cp sz n f) :: q)
theorem OfTrs.eq {xs : List Tr} {ys : List AV} (h : OfTrs xs ys) : xs.map AV.ofTr = ys := by
  induction h with
  | nil => rfl
  | sc _ ih => simp [AV.ofTr, ih]
  | sl _ ih => simp [AV.ofTr, ih]
section
variable {P : Program} {N : Nat} {o : Oper} {s : Slots} {h : List Ent}
theorem lv_cl1 (T : TT P) {t g off : Nat} {x : Operand} {T' : TypeId} {cs : List AV} {y : AV} (ho : o.op = .load t x) (hx : evA s x = some (.v (.pointer (some ⟨g, off, none⟩)))) (ht : f2 T.siz t = some (1, false))
    (hm : Mem1 (.cl g T' cs) h) (hy : cs[off]? = some y) : LV P o s h (some (.cl g T' cs)) y := by
  obtain ⟨hl, e⟩ := List.getElem?_eq_some_iff.1 hy
  have h1 := lv_cl T ho hx ht hm (by omega) (.inr rfl)
  have : ldA false 1 (cs.drop off) = y := by
    simp only [ldA]
    rw [List.drop_eq_getElem_cons hl, e]
    rfl
  rwa [this] at h1
theorem lv_cla (T : TT P) {t n g : Nat} {x : Operand} {T' : TypeId} {cs : List AV} (ho : o.op = .load t x) (hx : evA s x = some (.v (.pointer (some ⟨g, 0, none⟩)))) (ht : f2 T.siz t = some (n, true))
    (hm : Mem1 (.cl g T' cs) h) (hl : Nat.beq cs.length n = true) : LV P o s h (some (.cl g T' cs)) (.ag cs) := by
  have hl := Nat.eq_of_beq_eq_true hl
  have h1 := lv_cl T ho hx ht hm (by omega) (.inl rfl)
  have : ldA true n (cs.drop 0) = .ag cs := by simp only [ldA, if_true, List.drop_zero]; exact congrArg AV.ag (List.take_of_length_le (by omega))
  rwa [this] at h1
theorem lv_clp (T : TT P) {t n g off : Nat} {x : Operand} {T' : TypeId} {cs ds : List AV} (ho : o.op = .load t x) (hx : evA s x = some (.v (.pointer (some ⟨g, off, none⟩)))) (ht : f2 T.siz t = some (n, true))
    (hm : Mem1 (.cl g T' cs) h) (hl : Nat.ble (off + n) cs.length = true) (hd : (cs.drop off).take n = ds) : LV P o s h (some (.cl g T' cs)) (.ag ds) := by
  have h1 := lv_cl T ho hx ht hm (Nat.le_of_ble_eq_true hl) (.inl rfl)
  have : ldA true n (cs.drop off) = .ag ds := by simp [ldA, hd]
  rwa [this] at h1
theorem lv_elt_sc (T : TT P) {t sz m k off : Nat} {x : Operand} {f : Nat → List Tr} {v : Value} (ho : o.op = .load t x) (hx : evA s x = some (.elt sz m f k off)) (ht : f2 T.siz t = some (1, false))
    (hy : (f k)[off]? = some (.sc v)) : LV P o s h none (.v v) := by
  obtain ⟨hl, e⟩ := List.getElem?_eq_some_iff.1 hy
  have h1 := lv_elt (h := h) T ho hx ht (by omega) (.inr rfl)
  have : ldA false 1 (((f k).map AV.ofTr).drop off) = .v v := by
    simp only [ldA]
    rw [List.drop_eq_getElem_cons (by simpa using hl)]
    simp [e, AV.ofTr]
  rwa [this] at h1
theorem lv_elt_sl (T : TT P) {t sz m k off : Nat} {x : Operand} {f : Nat → List Tr} {cp : Bool} {sz' n' : Nat} {f' : Nat → List Tr} (ho : o.op = .load t x) (hx : evA s x = some (.elt sz m f k off)) (ht : f2 T.siz t = some (1, false))
    (hy : (f k)[off]? = some (.sl cp sz' n' f')) : LV P o s h none (.t (.sl cp sz' n' f')) := by
  obtain ⟨hl, e⟩ := List.getElem?_eq_some_iff.1 hy
  have h1 := lv_elt (h := h) T ho hx ht (by omega) (.inr rfl)
  have : ldA false 1 (((f k).map AV.ofTr).drop off) = .t (.sl cp sz' n' f') := by
    simp only [ldA]
    rw [List.drop_eq_getElem_cons (by simpa using hl)]
    simp [e, AV.ofTr]
  rwa [this] at h1
theorem lv_elt_ag (T : TT P) {t n sz m k : Nat} {x : Operand} {f : Nat → List Tr} {ys : List AV} (ho : o.op = .load t x) (hx : evA s x = some (.elt sz m f k 0)) (ht : f2 T.siz t = some (n, true))
    (hl : Nat.beq (f k).length n = true) (hy : OfTrs (f k) ys) : LV P o s h none (.ag ys) := by
  have hl := Nat.eq_of_beq_eq_true hl
  have h1 := lv_elt (h := h) T ho hx ht (by omega) (.inl rfl)
  have : ldA true n (((f k).map AV.ofTr).drop 0) = .ag ys := by rw [← hy.eq]; simp only [ldA, if_true, List.drop_zero]; exact congrArg AV.ag (List.take_of_length_le (by simp; omega))
  rwa [this] at h1
theorem pv_ix_t (T : TT P) {t e sz bt n kk : Nat} {x y : Operand} {cp : Bool} {f : Nat → List Tr} {k : IntKind} {i : Int} (ho : o.op = .indexAddr t x y) (hx : evA s x = some (.t (.sl cp sz n f))) (hy : evA s y = some (.v (.int k i)))
    (ht : f2 T.elm t = some (e, sz, bt)) (h0 : 0 ≤ i ∧ i < n) (hk : i.toNat = kk) : PV P o s (.elt sz n f kk 0) := by subst hk; exact pv_indexAddr_t T ho hx hy ht h0.1 h0.2
theorem pv_ix_own (T : TT P) {t e sz bt g n c kk : Nat} {x y : Operand} {k : IntKind} {i : Int} (ho : o.op = .indexAddr t x y) (hx : evA s x = some (.v (.slice (some ⟨g, 0, none⟩) n c))) (hy : evA s y = some (.v (.int k i)))
    (ht : f2 T.elm t = some (e, sz, bt)) (h0 : 0 ≤ i ∧ i < n) (hk : i.toNat = kk) : PV P o s (.rp (.slice (some ⟨g, 0, none⟩) n c) sz kk 0) := by subst hk; exact pv_indexAddr_own T ho hx hy ht h0.1 h0.2
theorem pv_ix_arr (T : TT P) {t n e m g off off' : Nat} {x y : Operand} {k : IntKind} {i : Int} (ho : o.op = .indexAddr t x y) (hx : evA s x = some (.v (.pointer (some ⟨g, off, none⟩)))) (hy : evA s y = some (.v (.int k i)))
    (ht : f2 T.arr t = some (n, e, m)) (h0 : 0 ≤ i ∧ i < n) (hk : off + i.toNat * m = off') : PV P o s (.v (.pointer (some ⟨g, off', none⟩))) := by subst hk; exact pv_indexAddr_arr T ho hx hy ht h0.1 h0.2
theorem pv_fa (T : TT P) {t : TypeId} {x : Operand} {i g k off k' : Nat} (ho : o.op = .fieldAddr t x i) (hx : evA s x = some (.v (.pointer (some ⟨g, k, none⟩)))) (hf : f3 T.fld t i = some off) (hk : k + off = k') : PV P o s (.v (.pointer (some ⟨g, k', none⟩))) := by
  subst hk; exact pv_fieldAddr T ho hx hf
theorem pv_fa_elt (T : TT P) {t : TypeId} {x : Operand} {i sz n k off off' k' : Nat} {f : Nat → List Tr} (ho : o.op = .fieldAddr t x i) (hx : evA s x = some (.elt sz n f k off')) (hf : f3 T.fld t i = some off) (hk : off' + off = k') : PV P o s (.elt sz n f k k') := by
  subst hk; exact pv_fieldAddr_elt T ho hx hf
theorem pv_fa_rp (T : TT P) {t : TypeId} {x : Operand} {i sz k off off' k' : Nat} {v : Value} (ho : o.op = .fieldAddr t x i) (hx : evA s x = some (.rp v sz k off')) (hf : f3 T.fld t i = some off) (hk : off' + off = k') : PV P o s (.rp v sz k k') := by
  subst hk; exact pv_fieldAddr_rp T ho hx hf
theorem add_lit {a b c : Nat} (h : Nat.beq (a + b) c = true) : a + b = c := Nat.eq_of_beq_eq_true h
end
abbrev intA (x : Int) : AV := .v (.int .i64 x)
abbrev boolA (x : Bool) : AV := .v (.bool x)
def intsT (cp : Bool) (xs : List Int) : Tr := .sl cp 1 xs.length (fun k => [.sc (.int .i64 (xs.getD k 0))])
end Go.Tl
namespace Go.Tl
open Go Go.RowKit
open Go.Proofs.Ytlpknbneilgjkaa (PT treeB)
set_option linter.unusedVariables false
def Wt (ops : Array Oper) (o : Oper) (s : Slots) : Prop := o.guard = none ∨ ∃ g b og t, o.guard = some (g, b) ∧ ops[g]? = some og ∧ og.dst = some t ∧ look s t = some (.v (.bool b))
def Wf (ops : Array Oper) (o : Oper) (s : Slots) : Prop := ∃ g b c og t, o.guard = some (g, b) ∧ ops[g]? = some og ∧ og.dst = some t ∧ look s t = some (.v (.bool c)) ∧ c = !b
theorem wt_none {ops : Array Oper} {o : Oper} {s : Slots} (h : o.guard = none) : Wt ops o s := .inl h
theorem wt_some' {ops : Array Oper} {o : Oper} {s : Slots} {g t : Nat} {b c : Bool} {og : Oper} (h : o.guard = some (g, b)) (h1 : ops[g]? = some og) (h2 : og.dst = some t) (h3 : look s t = some (.v (.bool c))) (h4 : c = b) : Wt ops o s := by subst h4; exact .inr ⟨g, c, og, t, h, h1, h2, h3⟩
theorem wf_some {ops : Array Oper} {o : Oper} {s : Slots} {g t : Nat} {b c : Bool} {og : Oper} (h : o.guard = some (g, b)) (h1 : ops[g]? = some og) (h2 : og.dst = some t) (h3 : look s t = some (.v (.bool c))) (h4 : c = !b) : Wf ops o s := ⟨g, b, c, og, t, h, h1, h2, h3, h4⟩
theorem Wt.wanted {ops : Array Oper} {o : Oper} {s : Slots} {w : World} {S : Nat → Prop} {a : Act} (h : Wt ops o s) (hs : SRel w S s a.tmps) : Region.wanted o (yielded ops a.tmps) = true := by
  rcases h with h | ⟨g, b, og, t, h, h1, h2, h3⟩
  · simp [Region.wanted, h]
  · obtain ⟨v, hv1, hv2⟩ := hs t _ h3
    simp [Region.wanted, h, yielded, h1, h2, hv1, hv2.lit_inv]
theorem Wf.unwanted {ops : Array Oper} {o : Oper} {s : Slots} {w : World} {S : Nat → Prop} {a : Act} (h : Wf ops o s) (hs : SRel w S s a.tmps) : Region.wanted o (yielded ops a.tmps) = false := by
  obtain ⟨g, b, c, og, t, h, h1, h2, h3, h4⟩ := h
  obtain ⟨v, hv1, hv2⟩ := hs t _ h3
  subst h4
  cases b <;> simp [Region.wanted, h, yielded, h1, h2, hv1, hv2.lit_inv]
theorem wpOX_of_if {P : Program} {ops : Array Oper} {Q : Exit → Act → World → Prop} {i : Nat} {o : Oper} {K : Act → World → Prop} {a : Act} {w : World} (ho : ops[i]? = some o) (h : if Region.wanted o (yielded ops a.tmps) = true then wpX P o a w K Q else K (a.put o.dst undef) w) : wpOX P ops Q i K a w := ⟨o, ho, h⟩
def Kept (S0 : Nat → Prop) (ks : List Ent) (b : Nat) : Prop := S0 b ∨ Own ks b
def AWT (P : Program) (N : Nat) (ops : Array Oper) (so : Slots) (ks : List Ent) (t : PT) (Q : Exit → Slots → List Ent → Prop) (s : Slots) (h : List Ent) : Prop :=
  ∀ (B : Base) (w0 : World) (S0 : Nat → Prop) (w : World) (S : Nat → Prop) (a : Act), Sim B N w S s h a → SRel w0 S0 so a.tmps → HRel w0 S0 ks → (∀ b, S0 b → b < w0.heap.size) → w0.heap.size ≤ w.heap.size → (∀ b, S0 b → S b) →
    (∀ b, Kept S0 ks b → w.heap[b]? = w0.heap[b]?) → wpTX P ops (postR B N Q) (fun w' => ∀ b, Kept S0 ks b → w'.heap[b]? = w0.heap[b]?) t a w
def AWE (P : Program) (N : Nat) (ops : Array Oper) (t : PT) (Q : Exit → Slots → List Ent → Prop) (s : Slots) (h : List Ent) : Prop :=
  ∀ (B : Base) (SS : World → Prop) (w : World) (S : Nat → Prop) (a : Act), Sim B N w S s h a → wpTX P ops (postR B N Q) SS t a w
section
variable {P : Program} {N : Nat} {ops : Array Oper} {so s : Slots} {ks h : List Ent} {Q : Exit → Slots → List Ent → Prop} {r : PT} {i d : Nat} {o : Oper}
theorem SRel.put0 {w : World} {S : Nat → Prop} {a : Act} (hs : SRel w S so a.tmps) {v : Value} {dst : Option Nat} (hd : ∀ d, dst = some d → look so d = none) : SRel w S so (a.put dst v).tmps := fun e x hx => by
  obtain ⟨u, hu, hr⟩ := hs e x hx
  cases dst with
  | none => exact ⟨u, hu, hr⟩
  | some d =>
    have hne : d ≠ e := fun e0 => by subst e0; rw [hd d rfl] at hx; cases hx
    exact ⟨u, by simp only [Act.put]; rw [Array.getElem?_setIfInBounds_ne hne]; exact hu, hr⟩
theorem awt_end (H : Q .normal s h) : AWT P N ops so ks .stop Q s h := fun B w0 S0 w S a hs _ _ _ _ _ _ => ⟨rfl, S, s, h, H, hs⟩
theorem awt_po {y : AV} (ho : ops[i]? = some o) (hw : Wt ops o s) (H : PV P o so y) (hd : o.dst = some d) (hN : Nat.blt d N = true) (K : AWT P N ops ((d, y) :: so) ks r Q ((d, y) :: s) h) : AWT P N ops so ks (.op i 0 r) Q s h := fun B w0 S0 w S a hs hso hks hl hsz hS hk => by
  obtain ⟨v, hrun, hv⟩ := H w0 S0 a hso
  have hv' := hv.mono hS (fun b hb => hk b (.inl hb))
  refine ⟨o, v, ho, .inl ⟨hw.wanted hs.slots, fun w' _ => hrun w'⟩, ?_⟩
  rw [hd]
  exact K B w0 S0 w S _ (hs.put hv' (blt_lt hN)) (hso.put hv (by rw [hs.size]; exact blt_lt hN)) hks hl hsz hS hk
theorem awt_pn {y : AV} {so' : Slots} (ho : ops[i]? = some o) (hw : Wt ops o s) (H : PV P o s y) (hd : o.dst = some d) (hN : Nat.blt d N = true) (hso' : ∀ e x, look so' e = some x → look so e = some x) (hn : look so' d = none) (K : AWT P N ops so' ks r Q ((d, y) :: s) h) : AWT P N ops so ks (.op i 0 r) Q s h := fun B w0 S0 w S a hs hso hks hl hsz hS hk => by
  obtain ⟨v, hrun, hv⟩ := H w S a hs.slots
  refine ⟨o, v, ho, .inl ⟨hw.wanted hs.slots, fun w' _ => hrun w'⟩, ?_⟩
  rw [hd]
  have hso2 : SRel w0 S0 so' a.tmps := fun e x hx => hso e x (hso' e x hx)
  exact K B w0 S0 w S _ (hs.put hv (blt_lt hN)) (hso2.put0 (fun d' e => by cases e; exact hn)) hks hl hsz hS hk
theorem dT {p : Prop} [Decidable p] (h : p) : decide p = true := decide_eq_true h
theorem dF {p : Prop} [Decidable p] (h : ¬ p) : decide p = false := decide_eq_false h
theorem awt_n1 {y : AV} (ho : ops[i]? = some o) (hw : Wt ops o s) (H : PV P o s y) (hd : o.dst = some d) (hN : Nat.blt d N = true) (hn : look so d = none) (K : AWT P N ops so ks r Q ((d, y) :: s) h) : AWT P N ops so ks (.op i 0 r) Q s h := awt_pn ho hw H hd hN (fun _ _ h => h) hn K
theorem awt_n2 {y : AV} (ho : ops[i]? = some o) (hw : Wt ops o s) (H : PV P o s y) (hd : o.dst = some d) (hN : Nat.blt d N = true) (K : AWT P N ops [] ks r Q ((d, y) :: s) h) : AWT P N ops so ks (.op i 0 r) Q s h := awt_pn (so' := []) ho hw H hd hN (fun _ _ h => by cases h) rfl K
theorem awt_sk0 {so' : Slots} (ho : ops[i]? = some o) (hw : Wf ops o s) (hd : o.dst = some d) (hN : Nat.blt d N = true) (hso' : ∀ e x, look so' e = some x → look so e = some x) (hn : look so' d = none) (K : AWT P N ops so' ks r Q ((d, .v undef) :: s) h) : AWT P N ops so ks (.op i 0 r) Q s h := fun B w0 S0 w S a hs hso hks hl hsz hS hk => by
  refine ⟨o, undef, ho, .inr ⟨hw.unwanted hs.slots, rfl⟩, ?_⟩
  rw [hd]
  have hso2 : SRel w0 S0 so' a.tmps := fun e x hx => hso e x (hso' e x hx)
  exact K B w0 S0 w S _ (hs.put (.v _) (blt_lt hN)) (hso2.put0 (fun d' e => by cases e; exact hn)) hks hl hsz hS hk
theorem awt_sk1 {so' : Slots} (ho : ops[i]? = some o) (hw : Wf ops o s) (hd : o.dst = some d) (hN : Nat.blt d N = true) (hso' : ∀ e x, look so' e = some x → look so e = some x) (hn : look so' d = none) (K : AWT P N ops so' ks r Q ((d, .v undef) :: s) h) : AWT P N ops so ks (.op i 1 r) Q s h := fun B w0 S0 w S a hs hso hks hl hsz hS hk => by
  refine ⟨o, undef, ho, .inr ⟨hw.unwanted hs.slots, rfl⟩, ?_⟩
  rw [hd]
  have hso2 : SRel w0 S0 so' a.tmps := fun e x hx => hso e x (hso' e x hx)
  exact K B w0 S0 w S _ (hs.put (.v _) (blt_lt hN)) (hso2.put0 (fun d' e => by cases e; exact hn)) hks hl hsz hS hk
theorem awt_lo {y y' : AV} {e : Option Ent} (ho : ops[i]? = some o) (hw : Wt ops o s) (H : LV P o so ks e y) (hy : y = y') (hd : o.dst = some d) (hN : Nat.blt d N = true) (K : AWT P N ops ((d, y') :: so) ks r Q ((d, y') :: s) h) : AWT P N ops so ks (.op i 1 r) Q s h := fun B w0 S0 w S a hs hso hks hl hsz hS hk => by
  subst hy
  obtain ⟨v, b, hrun, hv, hb⟩ := H w0 S0 a hso hks
  have hkb : Kept S0 ks b := by
    rcases hb with h1 | ⟨e0, _, h2, h3⟩
    · exact .inl h1
    · exact .inr ⟨e0, h2, h3⟩
  have hv' := hv.mono hS (fun b hb => hk b (.inl hb))
  refine ⟨o, v, ho, .inl ⟨hw.wanted hs.slots, fun w' hw' => hrun w' (hw' b hkb)⟩, ?_⟩
  rw [hd]
  exact K B w0 S0 w S _ (hs.put hv' (blt_lt hN)) (hso.put hv (by rw [hs.size]; exact blt_lt hN)) hks hl hsz hS hk
theorem awt_h {hm : List Ent} (ho : ops[i]? = some o) (hw : Wt ops o s) (hsub : SubH (hm ++ ks) h) (hn : (match o.dst with | some d => look so d | none => none) = none) (H : AOp P N o (Own hm) s h (fun s' h' => AWT P N ops so ks r Q s' h')) : AWT P N ops so ks (.op i 2 r) Q s h := fun B w0 S0 w S a hs hso hks hl hsz hS hk => by
  have hr := hsub.heap hs.heap
  have hkeep : ∀ b, Kept S0 ks b → b < w.heap.size ∧ ¬ Own hm b := fun b hb => by
    rcases hb with h1 | ⟨e, he, h1⟩
    · exact ⟨hs.lt b (hS b h1), fun ⟨e, he, h2⟩ => hr.off e (List.mem_append_left _ he) b h2 (hS b h1)⟩
    · exact ⟨(hr.ent e (List.mem_append_right _ he)).lt b h1, fun ⟨e', he', h2⟩ => (List.pairwise_append.1 hr.sep).2.2 e' he' e he b h2 h1⟩
  refine wpOX_of_if ho ?_
  rw [if_pos (hw.wanted hs.slots)]
  refine H B w S a hs _ _ (fun v w' S' s' h' hK hs' hu => ?_)
  have hk' : ∀ b, Kept S0 ks b → w'.heap[b]? = w0.heap[b]? := fun b hb => (hu.keep b (hkeep b hb).1 (hkeep b hb).2).trans (hk b hb)
  refine ⟨hk', hK B w0 S0 w' S' _ hs' (hso.put0 (fun d e => ?_)) hks hl (Nat.le_trans hsz hu.size) (fun b hb => hu.stab b (hS b hb)) hk'⟩
  rw [e] at hn
  exact hn
theorem awt_s {md : Nat → Prop} (ho : ops[i]? = some o) (hw : Wt ops o s) (H : AOp P N o md s h (fun s' h' => AWE P N ops r Q s' h')) : AWT P N ops so ks (.op i 3 r) Q s h := fun B w0 S0 w S a hs hso hks hl hsz hS hk => by
  refine wpOX_of_if ho ?_
  rw [if_pos (hw.wanted hs.slots)]
  exact H B w S a hs _ _ (fun v w' S' s' h' hK hs' hu => hK B _ w' S' _ hs')
theorem awt_sk3 (ho : ops[i]? = some o) (hw : Wf ops o s) (hd : o.dst = some d) (hN : Nat.blt d N = true) (K : AWE P N ops r Q ((d, .v undef) :: s) h) : AWT P N ops so ks (.op i 3 r) Q s h := fun B w0 S0 w S a hs hso hks hl hsz hS hk => by
  refine wpOX_of_if ho ?_
  rw [if_neg (by rw [hw.unwanted hs.slots]; simp), hd]
  exact K B _ w S _ (hs.put (.v _) (blt_lt hN))
theorem awt_fork {j : Nat} {q : PT} (H1 : AWT P N ops so ks (.op i 2 r) Q s h) (H2 : AWT P N ops so ks (.op j 2 q) Q s h) : AWT P N ops so ks (.fork i r j q) Q s h := fun B w0 S0 w S a hs hso hks hl hsz hS hk => ⟨H1 B w0 S0 w S a hs hso hks hl hsz hS hk, H2 B w0 S0 w S a hs hso hks hl hsz hS hk⟩
theorem awe_end (H : Q .normal s h) : AWE P N ops .stop Q s h := fun B SS w S a hs => ⟨rfl, S, s, h, H, hs⟩
theorem awe_p {y : AV} (ho : ops[i]? = some o) (hw : Wt ops o s) (H : PV P o s y) (hd : o.dst = some d) (hN : Nat.blt d N = true) (K : AWE P N ops r Q ((d, y) :: s) h) : AWE P N ops (.op i 0 r) Q s h := fun B SS w S a hs => by
  obtain ⟨v, hrun, hv⟩ := H w S a hs.slots
  refine ⟨o, v, ho, .inl ⟨hw.wanted hs.slots, fun w' _ => hrun w'⟩, ?_⟩
  rw [hd]
  exact K B SS w S _ (hs.put hv (blt_lt hN))
theorem awe_sk (ho : ops[i]? = some o) (hw : Wf ops o s) (hd : o.dst = some d) (hN : Nat.blt d N = true) (K : AWE P N ops r Q ((d, .v undef) :: s) h) : AWE P N ops (.op i 0 r) Q s h := fun B SS w S a hs => by
  refine ⟨o, undef, ho, .inr ⟨hw.unwanted hs.slots, rfl⟩, ?_⟩
  rw [hd]
  exact K B SS w S _ (hs.put (.v _) (blt_lt hN))
theorem awe_s {md : Nat → Prop} (ho : ops[i]? = some o) (hw : Wt ops o s) (H : AOp P N o md s h (fun s' h' => AWE P N ops r Q s' h')) : AWE P N ops (.op i 3 r) Q s h := fun B SS w S a hs => by
  refine wpOX_of_if ho ?_
  rw [if_pos (hw.wanted hs.slots)]
  exact H B w S a hs _ _ (fun v w' S' s' h' hK hs' hu => hK B SS w' S' _ hs')
theorem awp_tree (T : TT P) {ro : Option Nat} {id : Nat} (full : List (Nat × Nat)) (t : PT) (ks : List Ent) (hn : ops.toList.all ndO = true) (hok : treeB ops full t = true) (hks : SubH ks h) (H : AWT P N ops s ks t Q s h) : AWP P N ro (.region id ops true) Q s h := fun B w S a hs => by
  have hd := hs.drew
  refine Code.wpIn_mono postR_post (wpIn_treeX (fun w' => ∀ b, Kept S ks b → w'.heap[b]? = w.drew.heap[b]?) full t T.mixed hok hn (fun _ _ _ _ _ h => (by cases h.1)) (fun _ _ => rfl) ?_)
  exact H B w.drew S w.drew S a hd hd.slots (hks.heap hd.heap) hd.lt (Nat.le_refl _) (fun _ h => h) (fun _ _ => rfl)
end
end Go.Tl
namespace Go.Tl
open Go Go.RowKit
set_option linter.unusedVariables false
inductive Evs (s : Slots) : List Operand → List AV → Prop where
  | nil : Evs s [] []
  | cons {x : Operand} {y : AV} {xs : List Operand} {ys : List AV} (h : evA s x = some y) (r : Evs s xs ys) : Evs s (x :: xs) (y :: ys)
theorem Evs.eq {s : Slots} {xs : List Operand} {ys : List AV} (h : Evs s xs ys) : xs.map (evA s) = ys.map some := by
  induction h with
  | nil => rfl
  | cons h _ ih => simp [h, ih]
inductive Parts (s : Slots) : Nat → List (Nat × Operand) → List AV → Prop where
  | nil {k : Nat} : Parts s k [] []
  | cons {k : Nat} {x : Operand} {y : AV} {r : List (Nat × Operand)} {ys : List AV} (h : evA s x = some y) (p : Parts s (k + 1) r ys) : Parts s k ((k, x) :: r) (y :: ys)
theorem Parts.eq {s : Slots} {k : Nat} {r : List (Nat × Operand)} {ys : List AV} (h : Parts s k r ys) : ∃ xs, r = idxs k xs ∧ xs.map (evA s) = ys.map some ∧ xs.length = ys.length := by
  induction h with
  | nil => exact ⟨[], rfl, rfl, rfl⟩
  | cons h _ ih =>
    obtain ⟨xs, rfl, e, l⟩ := ih
    exact ⟨_ :: xs, rfl, by simp [h, e], by simp [l]⟩
inductive Sp : List AV → Nat → List AV → List AV → Prop where
  | done {cs : List AV} : Sp cs 0 [] cs
  | put {c y : AV} {cs ys cs' : List AV} (h : Sp cs 0 ys cs') : Sp (c :: cs) 0 (y :: ys) (y :: cs')
  | skip {c : AV} {off : Nat} {cs ys cs' : List AV} (h : Sp cs off ys cs') : Sp (c :: cs) (off + 1) ys (c :: cs')
theorem Sp.eq {cs ys cs' : List AV} {off : Nat} (h : Sp cs off ys cs') : spA cs off ys = cs' ∧ off + ys.length ≤ cs.length := by
  induction h with
  | done => simp [spA]
  | put h ih =>
    refine ⟨?_, by have := ih.2; simp at this ⊢; omega⟩
    rw [← ih.1]
    simp [spA]
  | @skip c off cs ys cs' h ih =>
    refine ⟨?_, by have := ih.2; simp at this ⊢; omega⟩
    rw [← ih.1]
    simp [spA, show off + 1 + ys.length = off + ys.length + 1 by omega]
section
variable {P : Program} {N : Nat} {o : Oper} {md : Nat → Prop} {s : Slots} {h h1 : List Ent} {K : Slots → List Ent → Prop}
theorem st_alloc (T : TT P) {t d : Nat} {z : Value} {cs : List AV} (ho : o.op = .alloc t) (hd : o.dst = some d) (hN : Nat.blt d N = true) (hz : f2 T.zer t = some z) (hcs : z.cells.toList.map AV.v = cs)
    (hK : ∀ g, K ((d, .v (.pointer (some ⟨g, 0, none⟩))) :: s) (.cl g t cs :: h)) : AOp P N o md s h K := aop_alloc T ho hd (blt_lt hN) hz hcs hK
theorem st_box {t d : Nat} {x : Operand} {y : AV} {cs : List AV} (ho : o.op = .box t x) (hx : evA s x = some y) (hok : okA y = true) (hcs : cellsA y = cs) (hd : o.dst = some d) (hN : Nat.blt d N = true)
    (hK : ∀ g, K ((d, .v (.pointer (some ⟨g, 0, none⟩))) :: s) (.cl g t cs :: h)) : AOp P N o md s h K := by subst hcs; exact aop_box ho hx hok hd (blt_lt hN) hK
theorem st_store (T : TT P) {t n g off : Nat} {ag : Bool} {x y : Operand} {u : AV} {T' : TypeId} {cs us cs' : List AV} {h' : List Ent} (ho : o.op = .store t x y) (hx : evA s x = some (.v (.pointer (some ⟨g, off, none⟩)))) (hy : evA s y = some u)
    (ht : f2 T.siz t = some (n, ag)) (hok : okA u = true) (hu : cellsA u = us) (hone : us.all oneA = true) (hn : Nat.beq us.length n = true) (hd : o.dst = none) (hp : Repl h (.cl g T' cs) (.cl g T' cs') h') (hcs : Sp cs off us cs') (hmd : md g)
    (hK : K s h') : AOp P N o md s h K := by
  subst hu
  have hn := Nat.eq_of_beq_eq_true hn
  exact aop_store T ho hx hy ht hok hone hn hd hp (by have := hcs.eq.2; omega) hcs.eq.1 hmd hK
theorem st_bsl (T : TT P) {t len d e sz bt : Nat} {z : Value} {parts : Array (Nat × Operand)} {ys : List AV} {rows : List (List AV)} (ho : o.op = .buildSlice t len parts) (hd : o.dst = some d) (hN : Nat.blt d N = true) (ht : f2 T.elm t = some (e, sz, bt)) (hz : f2 T.zer e = some z)
    (hp : Parts s 0 parts.toList ys) (hlen : Nat.beq ys.length len = true) (hmax : Nat.ble (len * sz) 16777216 = true) (hok : ys.all okA = true) (hsz : ys.all (fun y => Nat.beq (cellsA y).length sz) = true) (hr : ys.map cellsA = rows)
    (hK : ∀ g, K ((d, .v (.slice (some ⟨g, 0, none⟩) len len)) :: s) (.rw (.slice (some ⟨g, 0, none⟩) len len) e sz rows :: h)) : AOp P N o md s h K := by
  subst hr
  obtain ⟨xs, h1, h2, h3⟩ := hp.eq
  exact aop_buildSlice T ho hd (blt_lt hN) ht hz h1 (by rw [h3]; exact Nat.eq_of_beq_eq_true hlen) (Nat.le_of_ble_eq_true hmax) h2 hok hsz hK
theorem st_app (T : TT P) {t d e sz bt m c g' n : Nat} {z v : Value} {x y : Operand} {rows news : List (List AV)} (ho : o.op = .call { callee := .builtin .append, args := #[x, y], argTypes := #[t, t] }) (hd : o.dst = some d) (hN : Nat.blt d N = true)
    (ht : f2 T.elm t = some (e, sz, bt)) (hz : f2 T.zer e = some z) (hzs : z.cells.size = sz) (hbt : Nat.ble bt 1000 = true) (hx : evA s x = some (.v v)) (hy : evA s y = some (.v (.slice (some ⟨g', 0, none⟩) m c)))
    (hp : Pick h (.rw v e sz rows) h1) (hq : Mem1 (.rw (.slice (some ⟨g', 0, none⟩) m c) e sz news) h) (hm : Nat.beq news.length m = true) (hone : (news.flatten).all oneA = true) (hrl : rows.length = n) (hb : n + m ≤ 1000000) (hmd : ∀ b, v.ownBlock = some b → md b)
    (hK : ∀ ad cap, (0 < m → ∃ g, ad = some ⟨g, 0, none⟩) → K ((d, .v (.slice ad (n + m) cap)) :: s) (.rw (.slice ad (n + m) cap) e sz (rows ++ news) :: h1)) : AOp P N o md s h K := by
  subst hrl
  exact aop_append T ho hd (blt_lt hN) ht hz hzs hbt hx hy hp hq (Nat.eq_of_beq_eq_true hm) hb (fun r hr u hu => List.all_eq_true.1 hone u (List.mem_flatten.2 ⟨r, hr, hu⟩)) hmd hK
theorem st_call (T : TT P) {x : Operand} {xs : Array Operand} {ts : Array TypeId} {yc : AV} {f d : Nat} {fs cs ys args : List AV} {R : AV → Prop} (C : PCall P f args R) (ho : o.op = .call { callee := .value x, args := xs, argTypes := ts }) (hd : o.dst = some d) (hN : Nat.blt d N = true)
    (hcal : evA s x = some yc) (hcl : Callee yc f fs cs) (hx : Evs s xs.toList ys) (hfn : T.fns.any (Nat.beq f) = true) (hargs : fs ++ ys ++ cs = args)
    (hK : ∀ r, R r → K ((d, r) :: s) h) : AOp P N o md s h K := aop_pcall T ho hd (blt_lt hN) hcal hcl hx.eq hfn hargs C hK
theorem st_acall (T : TT P) {x : Operand} {xs : Array Operand} {ts : Array TypeId} {yc : AV} {f d : Nat} {fs cs ys args : List AV} {hc hf : List Ent} {Q : AV → List Ent → Prop} (C : ACall P f args hc Q) (ho : o.op = .call { callee := .value x, args := xs, argTypes := ts }) (hd : o.dst = some d) (hN : Nat.blt d N = true)
    (hcal : evA s x = some yc) (hcl : Callee yc f fs cs) (hx : Evs s xs.toList ys) (hfn : T.fns.any (Nat.beq f) = true) (hargs : fs ++ ys ++ cs = args) (hsub : SubH (hc ++ hf) h) (hmd : ∀ b, Own hc b → md b)
    (hK : ∀ r h', Q r h' → K ((d, r) :: s) (h' ++ hf)) : AOp P N o md s h K := aop_acall T ho hd (blt_lt hN) hcal hcl hx.eq hfn hargs hsub C hmd hK
end
def intRow (x : Int) : List AV := [.v (.int .i64 x)]
theorem intRows_tree (xs : List Int) : ∀ k, k < xs.length → (xs.map intRow).getD k [] = ((fun k => [Tr.sc (.int .i64 (xs.getD k 0))]) k).map AV.ofTr := fun k hk => by
  simp [List.getD_eq_getElem?_getD, hk, intRow, AV.ofTr]
end Go.Tl
namespace Go.Tl
open Go Go.RowKit
theorem fold_list (ps : Array Tmp) (vs : List Value) (t : Array Value) : (ps.zip vs.toArray).foldl (fun tmps (t, a) => tmps.setIfInBounds t a) t = (ps.toList.zip vs).foldl (fun t (x : Tmp × Value) => t.setIfInBounds x.1 x.2) t := by
  rw [← Array.foldl_toList]
  simp
end Go.Tl
namespace Go.Tl
open Go Go.RowKit
set_option linter.unusedVariables false
set_option linter.unusedSimpArgs false
def kV (ks : List Int) : Value := .agg (ks.map (Value.int .i64)).toArray
def kA (ks : List Int) : AV := .ag ((ks.map (Value.int .i64)).map AV.v)
theorem kA_inv {w : World} {S : Nat → Prop} {ks : List Int} {v : Value} (h : VRel w S (kA ks) v) : v = kV ks := by
  unfold kA at h
  cases h with
  | ag hl hh => rw [VRels.lits_inv ⟨hl, hh⟩]; rfl
structure MK (P : Program) (mt : TypeId) (n : Nat) where
  kt : TypeId
  vt : TypeId
  z : Value
  zA : AV
  fs : Array Field
  hm : P.underlying mt = some (.map kt vt)
  hk : P.underlying kt = some (.struct fs)
  hz : ∀ w, (zeroValue vt).run P w = .ok z w
  hzA : ∀ w S, VRel w S zA z
  chk : ∀ e ks w, ks.length = n → (Instr.checkKey e 10000 kt (kV ks)).run P w = .ok () w
  eq : ∀ as bs w, as.length = n → bs.length = n → (Op.equal kt (kV as) (kV bs)).run P w = .ok (decide (as = bs)) w
def lookL : List (List Int × AV) → List Int → Option AV
  | [], _ => none
  | (k, y) :: r, ks => if ks = k then some y else lookL r ks
def updL : List (List Int × AV) → List Int → AV → List (List Int × AV)
  | [], ks, x => [(ks, x)]
  | (k, y) :: r, ks, x => if ks = k then (k, x) :: r else (k, y) :: updL r ks x
inductive MRel (w : World) (S : Nat → Prop) (n : Nat) : List (List Int × AV) → List MapEntry → Prop where
  | nil : MRel w S n [] []
  | cons {k : List Int} {y : AV} {e : MapEntry} {r : List (List Int × AV)} {es : List MapEntry} (hl : k.length = n) (hk : e.key = kV k) (hv : VRel w S y e.val) (h : MRel w S n r es) : MRel w S n ((k, y) :: r) (e :: es)
theorem MRel.mono {w w' : World} {S S' : Nat → Prop} {n : Nat} {l : List (List Int × AV)} {es : List MapEntry} (h : MRel w S n l es) (hS : ∀ b, S b → S' b) (hw : ∀ b, S b → w'.heap[b]? = w.heap[b]?) : MRel w' S' n l es := by
  induction h with
  | nil => exact .nil
  | cons hl hk hv _ ih => exact .cons hl hk (hv.mono hS hw) ih
def mapO (g n : Nat) (l : List (List Int × AV)) : Ob where
  fp := fun b => b = g
  Φ := fun w S => ∃ es clock, w.heap[g]? = some (.map es clock) ∧ MRel w S n l es.toList
  lt := fun ⟨es, c, h, _⟩ b hb => by rw [hb]; exact (Array.getElem?_eq_some_iff.1 h).1
  keep := fun ⟨es, c, h, hr⟩ _ _ _ _ hS hw hg => ⟨es, c, (hg g rfl).trans h, hr.mono hS hw⟩
abbrev mapE (g n : Nat) (l : List (List Int × AV)) : Ent := .ob (mapO g n l)
section
variable {P : Program} {mt : TypeId} {n : Nat}
theorem findAsk (M : MK P mt n) {w0 : World} {S : Nat → Prop} {l : List (List Int × AV)} {es : List MapEntry} (h : MRel w0 S n l es) (ks : List Int) (hks : ks.length = n) : ∀ j,
    (lookL l ks = none ∧ (∀ y, updL l ks y = l ++ [(ks, y)]) ∧ ∀ w, (Instr.findAsking M.kt (kV ks) es j).run P w = .ok none w) ∨
    (∃ i e y, lookL l ks = some y ∧ es[i]? = some e ∧ e.key = kV ks ∧ VRel w0 S y e.val ∧ (∀ w, (Instr.findAsking M.kt (kV ks) es j).run P w = .ok (some (j + i, e.val)) w) ∧
      ∀ x v, VRel w0 S x v → ∀ e', e'.key = kV ks → e'.val = v → MRel w0 S n (updL l ks x) (es.set i e')) := by
  induction h with
  | nil => exact fun j => .inl ⟨rfl, fun _ => rfl, fun w => by simp [Instr.findAsking]⟩
  | @cons k y e r es hl hk hv hr ih =>
    intro j
    have he : ∀ w, (Op.equal M.kt (kV ks) e.key).run P w = .ok (decide (ks = k)) w := fun w => by rw [hk]; exact M.eq ks k w hks hl
    by_cases hh : ks = k
    · subst hh
      refine .inr ⟨0, e, y, by simp [lookL], rfl, hk, hv, fun w => by simp [Instr.findAsking, he], fun x v hx e' h1 h2 => ?_⟩
      simp only [updL, if_true, List.set_cons_zero]
      exact .cons hl h1 (h2 ▸ hx) hr
    · rcases ih (j + 1) with ⟨h1, h2, h3⟩ | ⟨i, e1, y1, h1, h2, h3, h4, h5, h6⟩
      · exact .inl ⟨by simp [lookL, hh, h1], fun x => by simp [updL, hh, h2], fun w => by simp [Instr.findAsking, he, hh, h3]⟩
      · refine .inr ⟨i + 1, e1, y1, by simp [lookL, hh, h1], by simpa using h2, h3, h4, fun w => ?_, fun x v hx e' h7 h8 => ?_⟩
        · have e4 : j + (i + 1) = j + 1 + i := by omega
          rw [e4]
          simp [Instr.findAsking, he, hh, h5]
        · simp only [updL, hh, if_false, List.set_cons_succ]
          exact .cons hl hk hv (h6 x v hx e' h7 h8)
theorem findK (M : MK P mt n) {w0 : World} {S : Nat → Prop} {l : List (List Int × AV)} {es : List MapEntry} (h : MRel w0 S n l es) (ks : List Int) (hks : ks.length = n) :
    (lookL l ks = none ∧ (∀ y, updL l ks y = l ++ [(ks, y)]) ∧ ∀ w, (Instr.findKey M.kt (kV ks) es).run P w = .ok none w) ∨
    (∃ i e y, lookL l ks = some y ∧ es[i]? = some e ∧ e.key = kV ks ∧ VRel w0 S y e.val ∧ (∀ w, (Instr.findKey M.kt (kV ks) es).run P w = .ok (some (i, e.val)) w) ∧
      ∀ x v, VRel w0 S x v → ∀ e', e'.key = kV ks → e'.val = v → MRel w0 S n (updL l ks x) (es.set i e')) := by
  cases es with
  | nil =>
    cases h
    exact .inl ⟨rfl, fun _ => rfl, fun w => by simp [Instr.findKey, run_underlying M.hk, Instr.findNow]⟩
  | cons e es =>
    have hn : Instr.findNow (.struct M.fs) (kV ks) (e :: es) 0 = none := by simp [Instr.findNow, Instr.sameNow]
    rcases findAsk M h ks hks 0 with ⟨h1, h2, h3⟩ | ⟨i, e1, y1, h1, h2, h3, h4, h5, h6⟩
    · exact .inl ⟨h1, h2, fun w => by simp [Instr.findKey, run_underlying M.hk, hn, h3]⟩
    · refine .inr ⟨i, e1, y1, h1, h2, h3, h4, fun w => ?_, h6⟩
      have := h5 w
      rw [Nat.zero_add] at this
      simp [Instr.findKey, run_underlying M.hk, hn, this]
theorem MRel.push {w : World} {S : Nat → Prop} {l : List (List Int × AV)} {es : List MapEntry} (h : MRel w S n l es) {ks : List Int} {y : AV} {e : MapEntry} (hl : ks.length = n) (hk : e.key = kV ks) (hv : VRel w S y e.val) : MRel w S n (l ++ [(ks, y)]) (es ++ [e]) := by
  induction h with
  | nil => exact .cons hl hk hv .nil
  | cons a b c _ ih => exact .cons a b c ih
theorem bits_key (ks : List Int) : Instr.sameBits 10000 (kV ks) (kV ks) = true := by
  simp only [Instr.sameBits, kV, List.size_toArray, beq_self_eq_true, Bool.true_and, List.all_eq_true]
  intro x hx
  obtain ⟨i, hi, rfl⟩ := List.getElem_of_mem hx
  simp [Instr.sameBits]
variable {N : Nat} {o : Oper} {md : Nat → Prop} {s : Slots} {h : List Ent} {K : Slots → List Ent → Prop}
def lkA (z : AV) : Option AV → AV
  | some y => .tup [y, .v (.bool true)]
  | none => .tup [z, .v (.bool false)]
theorem lv_lookup2 (M : MK P mt n) {m k : Operand} {g : Nat} {ks : List Int} {l : List (List Int × AV)} {y : AV} (ho : o.op = .lookup mt m k true) (hm : evA s m = some (.v (.map (some g)))) (hk : evA s k = some (kA ks)) (hks : ks.length = n) (hmem : Mem1 (mapE g n l) h)
    (hy : lkA M.zA (lookL l ks) = y) : LV P o s h (some (mapE g n l)) y := fun w S a hs hh => by
  subst hy
  obtain ⟨es, clock, hg, hr⟩ := hh.ent _ hmem.mem
  have hkv := kA_inv (hs.eval hk)
  rcases findK M hr ks hks with ⟨h1, _, h3⟩ | ⟨i, e, y1, h1, h2, h3, h4, h5, _⟩
  · refine ⟨.tuple #[M.z, .bool false], g, fun w' hw' => ?_, ?_, .inr ⟨_, rfl, hmem.mem, rfl⟩⟩
    · rw [hg] at hw'
      have hc := fun e w => M.chk e ks w hks
      simp [execOp, ho, hs.lit hm, hkv, Instr.lookup, run_underlying M.hm, MapKept.run_getObj_map hw', hc, h3, M.hz, Result.andThen]
    · rw [h1]
      exact .tup (vs := [_, _]) rfl (VRels.cons (M.hzA w S) (.cons (.v _) .nil)).2
  · refine ⟨.tuple #[e.val, .bool true], g, fun w' hw' => ?_, ?_, .inr ⟨_, rfl, hmem.mem, rfl⟩⟩
    · rw [hg] at hw'
      have hc := fun e w => M.chk e ks w hks
      simp [execOp, ho, hs.lit hm, hkv, Instr.lookup, run_underlying M.hm, MapKept.run_getObj_map hw', hc, h5, Result.andThen]
    · rw [h1]
      exact .tup (vs := [_, _]) rfl (VRels.cons h4 (.cons (.v _) .nil)).2
theorem aop_makeMap {d : Nat} (n : Nat) (ho : o.op = .makeMap mt none) (hd : o.dst = some d) (hN : Nat.blt d N = true) (hK : ∀ g, K ((d, .v (.map (some g))) :: s) (mapE g n [] :: h)) : AOp P N o md s h K := fun B w S a hs Kr Qr hk => by
  have hrun : (execOp a.eval o).run P w = .ok (.value (.map (some w.heap.size))) (w.alloc (.map #[] 0)) := by
    simp [execOp, ho, Instr.makeMap]
  unfold wpX
  rw [hd] at hk
  rw [hrun, Oper.uponIn_value, hd]
  have hold := fun b hb => alloc_old w (.map #[] 0) b hb
  refine hk _ _ S _ _ (hK w.heap.size) ((hs.push (w' := w.alloc (.map #[] 0)) (grw_alloc _ _) (e := mapE w.heap.size n []) ⟨#[], 0, by rw [heap_alloc_new], .nil⟩ (fun g hg => by have : g = w.heap.size := hg; omega)).put (.v _) (blt_lt hN)) (upd_push (by simp) hold)
theorem aop_mapUpdate (M : MK P mt n) {m k x : Operand} {g : Nat} {ks : List Int} {y : AV} {l l' : List (List Int × AV)} {h' : List Ent} (ho : o.op = .mapUpdate mt m k x) (hm : evA s m = some (.v (.map (some g)))) (hk : evA s k = some (kA ks)) (hks : ks.length = n) (hx : evA s x = some y) (hd : o.dst = none)
    (hp : Repl h (mapE g n l) (mapE g n l') h') (hl : updL l ks y = l') (hmd : md g) (hK : K s h') : AOp P N o md s h K := fun B w S a hs Kr Qr hk0 => by
  subst hl
  have hmem : mapE g n l ∈ h := by obtain ⟨p, q, rfl, _⟩ := hp.split; simp
  obtain ⟨es, clock, hg, hr⟩ := hs.heap.ent _ hmem
  have hkv := kA_inv (hs.slots.eval hk)
  have hxv := hs.slots.eval hx
  generalize hev : a.eval x = v at *
  have hlt : g < w.heap.size := (Array.getElem?_eq_some_iff.1 hg).1
  have hc := fun e w => M.chk e ks w hks
  have fin : ∀ ob : Obj, (∃ es' c', ob = .map es' c' ∧ MRel w S n (updL l ks y) es'.toList) → Sim B N (w.putObj g ob) S s h' a ∧ Upd w S (w.putObj g ob) S md := by
    rintro ob ⟨es', c', rfl, hr'⟩
    have hoth : ∀ b, b ≠ g → (w.putObj g (.map es' c')).heap[b]? = w.heap[b]? := fun b hb => World.putObj_heap_other hb
    have hgrw : Grw w (w.putObj g (.map es' c')) (mapE g n l).blk := ⟨rfl, rfl, rfl, by simp, fun b hb hn => hoth b (fun e => hn e)⟩
    exact ⟨hs.repl hp hgrw ⟨es', c', World.putObj_heap_same hlt, hr'.mono (fun _ h => h) (fun b hb => hoth b (fun e => hs.heap.off _ hmem g rfl (e ▸ hb)))⟩ (fun g' hg' => .inl hg'), ⟨by simp, fun b hb hn => hoth b (fun e => hn (e ▸ hmd)), fun _ h => h⟩⟩
  unfold wpX
  rw [hd] at hk0
  rcases findK M hr ks hks with ⟨h1, h2, h3⟩ | ⟨i, e, y1, h1, h2, h3, h4, h5, h6⟩
  · have hrun : (execOp a.eval o).run P w = .ok .skip (w.putObj g (.map (es.push { key := kV ks, val := v, born := clock }) (clock + 1))) := by
      simp [execOp, ho, hs.slots.lit hm, hkv, hev, Instr.mapUpdate, run_underlying M.hm, MapKept.run_getObj_map hg, hc, h3, MapKept.run_setObj_map _ hg, Result.andThen, World.putObj]
    rw [hrun, Oper.uponIn_skip, hd]
    obtain ⟨f1, f2⟩ := fin (.map (es.push { key := kV ks, val := v, born := clock }) (clock + 1)) ⟨_, _, rfl, by rw [h2, Array.toList_push]; exact hr.push hks rfl hxv⟩
    exact hk0 _ _ S _ _ hK f1.putNone f2
  · have hi' : es[i]? = some e := by simpa using h2
    have hrun : (execOp a.eval o).run P w = .ok .skip (w.putObj g (.map (es.modify i fun e => { e with key := kV ks, val := v }) clock)) := by
      simp [execOp, ho, hs.slots.lit hm, hkv, hev, Instr.mapUpdate, run_underlying M.hm, MapKept.run_getObj_map hg, hc, h5, hi', h3, Instr.keyThatStays, bits_key, MapKept.run_setObj_map _ hg, Result.andThen, World.putObj]
    rw [hrun, Oper.uponIn_skip, hd]
    have hmod : (es.modify i fun e => { e with key := kV ks, val := v }).toList = es.toList.set i { e with key := kV ks, val := v } := by
      rw [Array.toList_modify]
      apply List.ext_getElem?
      intro j
      rw [List.getElem?_modify, List.getElem?_set]
      by_cases hj : i = j
      · subst hj
        have : i < es.toList.length := (List.getElem?_eq_some_iff.1 h2).1
        rw [h2]
        simp [show i < es.size by simpa using this]
      · simp [hj]
    obtain ⟨f1, f2⟩ := fin (.map (es.modify i fun e => { e with key := kV ks, val := v }) clock) ⟨_, _, rfl, by rw [hmod]; exact h6 y v hxv _ rfl rfl⟩
    exact hk0 _ _ S _ _ hK f1.putNone f2
end
end Go.Tl
namespace Go.Tl
open Go Go.RowKit
set_option linter.unusedVariables false
set_option linter.unusedSimpArgs false
inductive BParts (s : Slots) : List (Nat × Operand) → List (Nat × AV) → Prop where
  | nil : BParts s [] []
  | cons {k : Nat} {x : Operand} {y : AV} {r : List (Nat × Operand)} {ys : List (Nat × AV)} (h : evA s x = some y) (p : BParts s r ys) : BParts s ((k, x) :: r) ((k, y) :: ys)
inductive FillA (pl : List (Nat × Nat)) : List AV → List (Nat × AV) → List AV → Prop where
  | nil {cs : List AV} : FillA pl cs [] cs
  | cons {cs us cs' cs'' : List AV} {i off sz : Nat} {y : AV} {r : List (Nat × AV)} (hp : pl[i]? = some (off, sz)) (hok : okA y = true) (hu : cellsA y = us) (hn : Nat.beq us.length sz = true) (h : Sp cs off us cs') (hr : FillA pl cs' r cs'') : FillA pl cs ((i, y) :: r) cs''
section
variable {P : Program} {N : Nat} {o : Oper} {s : Slots}
theorem TT.plc_at (T : TT P) {t : Nat} {pl : List (Nat × Nat)} (h : f2 T.plc t = some pl) : ∃ fs, P.underlying t = some (.struct fs) ∧ (fs.toList.map fun f => (f.offset, (P.info? f.type).map (·.size))) = pl.map fun x => (x.1, some x.2) := by
  have hb := List.all_eq_true.1 T.plcOk _ (f2_mem h)
  simp only [plcB] at hb
  split at hb
  · rename_i fs hu
    exact ⟨fs, hu, by simpa using hb⟩
  · cases hb
theorem run_places {w : World} : ∀ (fs : List Field) (pl : List (Nat × Nat)), (fs.map fun f => (f.offset, (P.info? f.type).map (·.size))) = pl.map (fun x => (x.1, some x.2)) →
    (fs.mapM fun f => (do pure (f.offset, ← sizeOf f.type) : Sem (Nat × Nat))).run P w = .ok pl w
  | [], [], _ => by simp
  | [], p :: pl, h => by simp at h
  | f :: fs, [], h => by simp at h
  | f :: fs, p :: pl, h => by
    simp only [List.map_cons, List.cons.injEq, Prod.mk.injEq] at h
    obtain ⟨⟨h1, h2⟩, h3⟩ := h
    obtain ⟨j, hj, hjs⟩ := Option.map_eq_some_iff.1 h2
    have ih := run_places (w := w) fs pl h3
    rw [List.mapM_cons]
    simp only [Sem.run_bind, run_sizeOf' hj, Result.andThen_ok, Sem.run_pure] at ih ⊢
    rw [ih]
    simp [h1, hjs]
theorem fill_rel {w : World} {S : Nat → Prop} {pl : List (Nat × Nat)} {cs cs' : List AV} {ys : List (Nat × AV)} (h : FillA pl cs ys cs') : ∀ (cells : Array Value) (vs : List (Nat × Value)), VRels w S cs cells.toList → ys.length = vs.length →
    (∀ (j : Nat) (x : Nat × AV) (y : Nat × Value), ys[j]? = some x → vs[j]? = some y → x.1 = y.1 ∧ VRel w S x.2 y.2) → ∃ cells', Instr.fill (pl.toArray[·]?) cells vs = some cells' ∧ VRels w S cs' cells'.toList := by
  induction h with
  | nil =>
    intro cells vs hc hl _
    have : vs = [] := List.length_eq_zero_iff.1 hl.symm
    subst this
    exact ⟨cells, rfl, hc⟩
  | @cons cs us cs' cs'' i off sz y r hp hok hu hn hsp _ ih =>
    intro cells vs hc hl hv
    cases vs with
    | nil => simp at hl
    | cons v vs =>
      obtain ⟨i', v⟩ := v
      obtain ⟨h1, h2⟩ := hv 0 _ _ rfl rfl
      simp only at h1 h2
      subst h1
      subst hu
      have hcl := cellsA_rel h2 hok
      have hn' := Nat.eq_of_beq_eq_true hn
      have hvs : v.cells.size = sz := by rw [← hn', hcl.1]; simp
      obtain ⟨e1, e2⟩ := hsp.eq
      have hcsl := hc.1
      have hfit : off + v.cells.size ≤ cells.size := by rw [hvs, ← hn']; simp at hcsl; omega
      have hf := fold_set off v.cells.toList 0 cells (by simpa using hfit)
      have e0 : (Array.foldl (fun (cs : Array Value) (p : Value × Nat) => cs.setIfInBounds (off + p.2) p.1) cells v.cells.zipIdx) = (v.cells.toList.zipIdx 0).foldl (fun (cs : Array Value) (p : Value × Nat) => cs.setIfInBounds (off + p.2) p.1) cells := by
        rw [← Array.foldl_toList, Array.toList_zipIdx]
      have hnew : VRels w S cs' ((v.cells.toList.zipIdx 0).foldl (fun (cs : Array Value) (p : Value × Nat) => cs.setIfInBounds (off + p.2) p.1) cells).toList := by
        rw [hf, ← e1]
        simp only [spA, Nat.add_zero]
        rw [hcl.1]
        exact ((hc.take off).append hcl).append (hc.drop _)
      obtain ⟨cells', h3, h4⟩ := ih _ vs hnew (by simpa using hl) (fun j x y hx hy => hv (j + 1) x y (by simpa using hx) (by simpa using hy))
      refine ⟨cells', ?_, h4⟩
      have hp' : pl.toArray[i]? = some (off, sz) := by simpa using hp
      simp only [Instr.fill, hp']
      rw [e0]
      simp only [Bool.or_eq_true, decide_eq_true_eq]
      rw [if_neg (by simp; omega)]
      exact h3
theorem BParts.eq {r : List (Nat × Operand)} {ys : List (Nat × AV)} (h : BParts s r ys) {w : World} {S : Nat → Prop} {a : Act} (hs : SRel w S s a.tmps) : ys.length = (r.map fun p => (p.1, a.eval p.2)).length ∧
    ∀ (j : Nat) (x : Nat × AV) (y : Nat × Value), ys[j]? = some x → (r.map fun p => (p.1, a.eval p.2))[j]? = some y → x.1 = y.1 ∧ VRel w S x.2 y.2 := by
  induction h with
  | nil => exact ⟨rfl, fun j x y h => by simp at h⟩
  | cons h _ ih =>
    refine ⟨by simpa using ih.1, fun j x y hx hy => ?_⟩
    cases j with
    | zero => simp at hx hy; subst hx; subst hy; exact ⟨rfl, hs.eval h⟩
    | succ j => exact ih.2 j x y (by simpa using hx) (by simpa using hy)
theorem pv_build (T : TT P) {t : TypeId} {parts : Array (Nat × Operand)} {z : Value} {pl : List (Nat × Nat)} {ys : List (Nat × AV)} {cs0 cs : List AV} (ho : o.op = .build t parts) (hz : f2 T.zer t = some z) (hpl : f2 T.plc t = some pl) (hcs : z.cells.toList.map AV.v = cs0) (hp : BParts s parts.toList ys) (hf : FillA pl cs0 ys cs) : PV P o s (.ag cs) := fun w S a hs => by
  subst hcs
  have h1 := zOk_at T.zerOk hz
  obtain ⟨i, hi, hiz⟩ := Option.map_eq_some_iff.1 h1
  obtain ⟨fs, hu, hpls⟩ := T.plc_at hpl
  obtain ⟨hl, hv⟩ := hp.eq (w := w) (S := S) hs
  obtain ⟨cells, hfill, hrel⟩ := fill_rel hf z.cells _ (.lits _) hl hv
  refine ⟨.agg cells, fun w' => ?_, .ag (vs := cells.toList) hrel.1 hrel.2⟩
  have hm : (fs.mapM fun f => (do pure (f.offset, ← sizeOf f.type) : Sem (Nat × Nat))).run P w' = .ok pl.toArray w' := by
    have e : fs = fs.toList.toArray := by simp
    rw [e, List.mapM_toArray, Sem.run_map]
    rw [run_places fs.toList pl hpls]
    rfl
  have hmap : (parts.map fun p => (p.1, a.eval p.2)).toList = parts.toList.map fun p => (p.1, a.eval p.2) := by simp
  have hmap' : (Array.map (fun x => match x with | (i, x) => (i, a.eval x)) parts) = (parts.map fun p => (p.1, a.eval p.2)) := rfl
  simp only [execOp, ho, hmap', Instr.build, Sem.run_bind, zeroValue, typeInfo, run_program, hi, hiz, Result.andThen_ok, Sem.run_pure, run_underlying hu, hm, hmap, hfill]
theorem pv_slice_hi (T : TT P) {t e sz bt n k : Nat} {x y : Operand} {f : Nat → List Tr} {kd : IntKind} {i : Int} (ho : o.op = .slice t x none (some y) none) (hx : evA s x = some (.t (.sl true sz n f))) (hy : evA s y = some (.v (.int kd i))) (ht : f2 T.elm t = some (e, sz, bt)) (h0 : 0 ≤ i ∧ i ≤ n) (hk : i.toNat = k) : PV P o s (.t (.sl true sz k f)) := fun w S a hs => by
  obtain ⟨j, hund, hj, hjs, hjb, hne⟩ := T.elm_at ht
  have h1 := hs.eval hx
  generalize hv : a.eval x = v at *
  cases h1 with
  | t h1 =>
    cases h1 with
    | @sl _ _ _ _ a0 c val hc hl h ih =>
      have hcn := hc rfl
      have hkn : k ≤ n := by omega
      refine ⟨.slice (if c = 0 then a0 else a0.map (·.add 0)) k c, fun w' => ?_, .t (.sl val (fun _ => by omega) (fun q hq => hl q (by omega)) (fun q hq => ?_) (fun q r z hq hz => ih q r z (by omega) hz))⟩
      · have e1 : i ≤ (c : Int) := by omega
        simp [execOp, ho, hv, hs.lit hy, Instr.sliceAt, Instr.slice, run_underlying hund, Instr.sliceBounds, Instr.sliceBound, asIntOf, h0.1, e1, run_sizeOf' hj, hk]
      · obtain ⟨b, off, e1, e2, e3⟩ := h q (by omega)
        refine ⟨b, off, ?_, e2, e3⟩
        split
        · exact e1
        · rw [e1]; simp [Addr.add_lit]
theorem pv_slice_arr (T : TT P) {t n e m g : Nat} {x : Operand} (ho : o.op = .slice t x none none none) (hx : evA s x = some (.v (.pointer (some ⟨g, 0, none⟩)))) (ht : f2 T.arr t = some (n, e, m)) : PV P o s (.v (.slice (some ⟨g, 0, none⟩) n n)) := fun w S a hs => by
  obtain ⟨j, hund, hj, hjs, hne⟩ := T.arr_at ht
  refine ⟨_, fun w' => ?_, .v _⟩
  cases n with
  | zero => simp [execOp, ho, hs.lit hx, Instr.sliceAt, Instr.sureAddr, Instr.slice, run_underlying hund, Instr.sliceBounds, asAddr, run_sizeOf' hj]
  | succ n => simp [execOp, ho, hs.lit hx, Instr.sliceAt, Instr.sureAddr, Instr.slice, run_underlying hund, Instr.sliceBounds, asAddr, run_sizeOf' hj, Addr.add_lit]
theorem pv_eqK {op : BinOp} {t t' : TypeId} {x z : Operand} {as bs : List Int} {r : Value} (ho : o.op = .binOp op t x z t') (hx : evA s x = some (kA as)) (hz : evA s z = some (kA bs))
    (hr : ∀ w, (do eqGuard op t x z (kV as) (kV bs); binOp op t (kV as) (kV bs) : Sem Value).run P w = .ok r w) : PV P o s (.v r) := fun w S a hs =>
  ⟨r, fun w' => by
    have h1 := hr w'
    simp only [execOp, ho, kA_inv (hs.eval hx), kA_inv (hs.eval hz)]
    rw [Sem.run_bind, h1]
    rfl, .v _⟩
variable {md : Nat → Prop} {h : List Ent} {K : Slots → List Ent → Prop}
theorem aop_copy (T : TT P) {t t' d e bt n m c g : Nat} {x y : Operand} {cp : Bool} {f : Nat → List Tr} {T' : TypeId} {cs cs' : List AV} {h' : List Ent} (ho : o.op = .call { callee := .builtin .copy, args := #[x, y], argTypes := #[t, t'] }) (hd : o.dst = some d) (hN : Nat.blt d N = true) (ht : f2 T.elm t = some (e, 1, bt))
    (hx : evA s x = some (.v (.slice (some ⟨g, 0, none⟩) n c))) (hy : evA s y = some (.t (.sl cp 1 m f))) (hp : Repl h (.cl g T' cs) (.cl g T' cs') h') (hn : cs.length = n) (hone : ∀ k, k < m → ∀ u ∈ f k, oneA (AV.ofTr u) = true)
    (hcs : spA cs 0 (((List.range (min m n)).map fun k => (f k).map AV.ofTr).flatten) = cs') (hmd : md g) (hK : K ((d, intA (min m n : Nat)) :: s) h') : AOp P N o md s h K := fun B w S a hs Kr Qr hk => by
  obtain ⟨j, hund, hj, hjs, hjb, hne⟩ := T.elm_at ht
  have hmem : Ent.cl g T' cs ∈ h := by obtain ⟨p, q, rfl, _⟩ := hp.split; simp
  obtain ⟨vs, hvs, hr⟩ := hs.heap.ent _ hmem
  have hvl : vs.length = n := by rw [← hr.1]; exact hn
  have hye := hs.slots.eval hy
  generalize hev : a.eval y = u0 at *
  cases hye with
  | t hT =>
    cases hT with
    | @sl _ _ _ _ a0 c0 val hc hl hh ih =>
      have hU : VRels w S ((List.range (min m n)).map fun k => (f k).map AV.ofTr).flatten ((List.range (min m n)).map fun k => val k 0) := by
        have : ∀ l : List Nat, (∀ k ∈ l, k < m) → VRels w S (l.map fun k => (f k).map AV.ofTr).flatten (l.map fun k => val k 0) := by
          intro l
          induction l with
          | nil => intro _; exact .nil
          | cons k l ihl =>
            intro hk
            simp only [List.map_cons, List.flatten_cons]
            have hlk := hl k (hk k (by simp))
            match hfk : f k, hlk with
            | [x], _ =>
              exact VRels.append (VRels.ofTr rfl (fun j y v hy hv => by
                match j with
                | 0 => simp at hy hv; subst hy; subst hv; exact ih k 0 x (hk k (by simp)) (by rw [hfk]; rfl)
                | j + 1 => simp at hy) : VRels w S ([x].map AV.ofTr) [val k 0]) (ihl (fun k' h' => hk k' (by simp [h'])))
        exact this _ (fun k hk => by have := List.mem_range.1 hk; omega)
      have hones := ones_rel hU (fun cc hcc => by
        obtain ⟨r, hr, hcr⟩ := List.mem_flatten.1 hcc
        obtain ⟨k, hk, rfl⟩ := List.mem_map.1 hr
        obtain ⟨x, hx', rfl⟩ := List.mem_map.1 hcr
        exact hone k (by have := List.mem_range.1 hk; omega) x hx')
      have hlen : ((List.range (min m n)).map fun k => val k 0).length = min m n := by simp
      have hkS : ∀ (cells : Array Value) b, S b → (w.setRow g cells).heap[b]? = w.heap[b]? := fun cells b hb => setRow_other w g b _ (fun e => hs.heap.off _ hmem g rfl (by rw [← e]; exact hb))
      have hrun : (Builtin.copy_ #[t, t'] o.type #[.slice (some ⟨g, 0, none⟩) n c, .slice a0 m c0]).run P w = .ok (goInt ((min m n : Nat) : Int)) (w.setRow g (vs.toArray.toList.take 0 ++ ((List.range (min m n)).map fun k => val k 0) ++ vs.toArray.toList.drop (0 + ((List.range (min m n)).map fun k => val k 0).length)).toArray) := by
        rcases Nat.eq_zero_or_pos (min m n) with h0 | h0
        · have e0 : ((List.range (min m n)).map fun k => val k 0) = [] := by rw [h0]; rfl
          rw [e0, h0]
          simp only [List.take_zero, List.nil_append, List.length_nil, Nat.add_zero, List.drop_zero]
          rw [show vs.toArray.toList.toArray = vs.toArray by simp, setRow_self w g _ _ _ hvs]
          have : Nat.min m n = 0 := h0
          cases a0 <;> simp [Builtin.copy_, run_underlying hund, Builtin.lenOf, run_sizeOf' hj, Builtin.firstCells, this, loadCells, loadCellsFrom, storeCells, h0]
        · obtain ⟨b, off, rfl, _, _⟩ := hh 0 (by omega)
          have := run_copy_row P w t t' o.type e g 0 n c ⟨b, off, none⟩ m c0 vs.toArray T' ((List.range (min m n)).map fun k => val k 0) hund (by rw [hj]; simp [hjs]) hvs (by simp) (fun q u hq => by
            rw [List.getElem?_map] at hq
            have hq2 : q < min m n := by
              rcases Nat.lt_or_ge q (min m n) with h | h
              · exact h
              · rw [List.getElem?_eq_none (by simpa using h)] at hq; cases hq
            rw [List.getElem?_range hq2] at hq
            simp at hq
            subst hq
            obtain ⟨b', off', e1, _, h3⟩ := hh q (by omega)
            simp at e1
            obtain ⟨rfl, rfl⟩ := e1
            rw [Addr.add_lit]
            simpa using h3 0 (by omega)) (by simp; omega) hones
          rw [hlen] at this ⊢
          exact this
      have hrun2 : (execOp a.eval o).run P w = .ok (.value (.int .i64 ((min m n : Nat) : Int))) (w.setRow g (vs.toArray.toList.take 0 ++ ((List.range (min m n)).map fun k => val k 0) ++ vs.toArray.toList.drop (0 + ((List.range (min m n)).map fun k => val k 0).length)).toArray) := by
        simp only [execOp, ho, resolve, List.map_toArray, List.map_cons, List.map_nil, hs.slots.lit hx, hev]
        simp [invoke, builtin, hrun, goInt, IntKind.wrap_i64]
      unfold wpX
      rw [hd] at hk
      rw [hrun2, Oper.uponIn_value, hd]
      have hg := grown_setRow w g (vs.toArray.toList.take 0 ++ ((List.range (min m n)).map fun k => val k 0) ++ vs.toArray.toList.drop (0 + ((List.range (min m n)).map fun k => val k 0).length)).toArray
      refine hk _ _ S _ _ hK ((hs.repl hp (.of hg (by simp [Ent.blk])) ⟨_, setRow_heap w g _ _ T' _ hvs, ?_⟩ (fun g' hg' => .inl hg')).put (.v _) (blt_lt hN)) ⟨by simp, fun b hb hnb => setRow_other w g b _ (fun e => hnb (by rw [e]; exact hmd)), fun _ h => h⟩
      subst hcs
      simp only [spA]
      have hlU := hU.1
      rw [hlU]
      exact (((hr.take 0).append hU).append (hr.drop _)).mono (fun _ h => h) (hkS _)
end
def TrLe (t t' : Tr) : Prop := ∀ (w : World) (S : Nat → Prop) (v : Value), TRel w S t v → TRel w S t' v
theorem TrLe.refl (t : Tr) : TrLe t t := fun _ _ _ h => h
theorem TrLe.sl {cp cp' : Bool} {sz n : Nat} {f f' : Nat → List Tr} (hc : cp' = true → cp = true) (h : ∀ k, k < n → (f' k).length = (f k).length ∧ ∀ (j : Nat) (x x' : Tr), (f k)[j]? = some x → (f' k)[j]? = some x' → TrLe x x') : TrLe (.sl cp sz n f) (.sl cp' sz n f') := fun w S v hv => by
  cases hv with
  | sl val hcc hl hh ih =>
    refine .sl val (fun e => hcc (hc e)) (fun k hk => (h k hk).1.trans (hl k hk)) hh (fun k j x hk hx => ?_)
    have hj : j < (f k).length := by rw [← (h k hk).1]; exact (List.getElem?_eq_some_iff.1 hx).1
    exact (h k hk).2 j _ x (List.getElem?_eq_getElem hj) hx w S _ (ih k j _ hk (List.getElem?_eq_getElem hj))
theorem ghost_to {s : Slots} {h : List Ent} {d : Nat} {t t' : Tr} (hd : look s d = some (.t t)) (H : TrLe t t') : Ghost s h ((d, .t t') :: s) h := fun B N w S a hs =>
  ⟨S, ⟨hs.ext, hs.defs, hs.size, fun e x hx => by
    simp only [look] at hx
    cases hb : Nat.beq d e with
    | true =>
      rw [hb] at hx
      simp at hx
      subst hx
      obtain ⟨u, hu, hr⟩ := hs.slots d _ hd
      rw [← Nat.eq_of_beq_eq_true hb]
      cases hr with
      | t hr => exact ⟨u, hu, .t (H w S u hr)⟩
    | false =>
      rw [hb] at hx
      exact hs.slots e x hx, hs.lt, hs.heap, hs.live, hs.off⟩, fun _ h => h⟩
theorem ghost_none {s : Slots} {h : List Ent} {d : Nat} {v : Value} {t : Tr} (hd : look s d = some (.v v)) (H : ∀ w S, TRel w S t v) : Ghost s h ((d, .t t) :: s) h := fun B N w S a hs =>
  ⟨S, ⟨hs.ext, hs.defs, hs.size, fun e x hx => by
    simp only [look] at hx
    cases hb : Nat.beq d e with
    | true =>
      rw [hb] at hx
      simp at hx
      subst hx
      obtain ⟨u, hu, hr⟩ := hs.slots d _ hd
      rw [← Nat.eq_of_beq_eq_true hb]
      rw [hr.lit_inv] at hu
      exact ⟨v, hu, .t (H w S)⟩
    | false =>
      rw [hb] at hx
      exact hs.slots e x hx, hs.lt, hs.heap, hs.live, hs.off⟩, fun _ h => h⟩
end Go.Tl
namespace Go.Tl
open Go Go.RowKit
set_option linter.unusedVariables false
section
variable {P : Program} {N : Nat} {ro : Option Nat} {o : Oper} {s : Slots} {h : List Ent} {Q : Exit → Slots → List Ent → Prop} {ops : Array Oper} {rest : List Oper}
theorem awl_pw {y : AV} {d : Nat} (hw : Wt ops o s) (H : PV P o s y) (hd : o.dst = some d) (hN : Nat.blt d N = true) (hK : AWL P N ops rest Q ((d, y) :: s) h) : AWL P N ops (o :: rest) Q s h := fun B w S a hs =>
  wpLX_op (hw.wanted hs.slots) (aop_pv (md := fun _ => True) H hd (blt_lt hN) hK B w S a hs _ _ (fun v w' S' s' h' hK hs' _ => hK B w' S' _ hs'))
theorem awl_lw {y y' : AV} {d : Nat} {e : Option Ent} (hw : Wt ops o s) (H : LV P o s h e y) (hy : y = y') (hd : o.dst = some d) (hN : Nat.blt d N = true) (hK : AWL P N ops rest Q ((d, y') :: s) h) : AWL P N ops (o :: rest) Q s h := fun B w S a hs => by
  subst hy
  exact wpLX_op (hw.wanted hs.slots) (aop_lv (md := fun _ => True) H hd (blt_lt hN) hK B w S a hs _ _ (fun v w' S' s' h' hK hs' _ => hK B w' S' _ hs'))
theorem awl_hw (hw : Wt ops o s) (H : AOp P N o (fun _ => True) s h (AWL P N ops rest Q)) : AWL P N ops (o :: rest) Q s h := fun B w S a hs =>
  wpLX_op (hw.wanted hs.slots) (H B w S a hs _ _ (fun v w' S' s' h' hK hs' _ => hK B w' S' _ hs'))
theorem awl_sk {d : Nat} (hw : Wf ops o s) (hd : o.dst = some d) (hN : Nat.blt d N = true) (hK : AWL P N ops rest Q ((d, .v undef) :: s) h) : AWL P N ops (o :: rest) Q s h := fun B w S a hs => by
  refine wpLX_skip (hw.unwanted hs.slots) ?_
  rw [hd]
  exact hK B w S _ (hs.put (.v _) (blt_lt hN))
theorem awl_sk0 (hw : Wf ops o s) (hd : o.dst = none) (hK : AWL P N ops rest Q s h) : AWL P N ops (o :: rest) Q s h := fun B w S a hs => by
  refine wpLX_skip (hw.unwanted hs.slots) ?_
  rw [hd]
  exact hK B w S _ hs.putNone
theorem pv_pick_t {c x z : Operand} {b : Bool} {y : AV} (ho : o.op = .pick c x z) (hc : evA s c = some (.v (.bool b))) (hb : b = true) (hx : evA s x = some y) : PV P o s y := by
  subst hb
  exact pv_pick ho hc (by simpa using hx)
theorem pv_pick_f {c x z : Operand} {b : Bool} {y : AV} (ho : o.op = .pick c x z) (hc : evA s c = some (.v (.bool b))) (hb : b = false) (hx : evA s z = some y) : PV P o s y := by
  subst hb
  exact pv_pick ho hc (by simpa using hx)
inductive KAs : List AV → List Int → Prop where
  | nil : KAs [] []
  | cons {x : Int} {cs : List AV} {ks : List Int} (h : KAs cs ks) : KAs (.v (.int .i64 x) :: cs) (x :: ks)
theorem KAs.eq {cs : List AV} {ks : List Int} (h : KAs cs ks) : AV.ag cs = kA ks := by
  induction h with
  | nil => rfl
  | cons _ ih => simp only [kA, AV.ag.injEq] at ih ⊢; simp [ih]
variable {mt : TypeId} {n : Nat} {md : Nat → Prop} {K : Slots → List Ent → Prop}
theorem lv_lk_n (M : MK P mt n) {m k : Operand} {g : Nat} {cs : List AV} {ks : List Int} {l : List (List Int × AV)} {z : AV} (ho : o.op = .lookup mt m k true) (hm : evA s m = some (.v (.map (some g)))) (hk : evA s k = some (.ag cs)) (hcs : KAs cs ks) (hks : Nat.beq ks.length n = true) (hmem : Mem1 (mapE g n l) h)
    (hl : lookL l ks = none) (hz : M.zA = z) : LV P o s h (some (mapE g n l)) (.tup [z, .v (.bool false)]) := lv_lookup2 M ho hm (by rw [hk, hcs.eq]) (Nat.eq_of_beq_eq_true hks) hmem (by rw [hl, ← hz]; rfl)
theorem lv_lk_s (M : MK P mt n) {m k : Operand} {g : Nat} {cs : List AV} {ks : List Int} {l : List (List Int × AV)} {y : AV} (ho : o.op = .lookup mt m k true) (hm : evA s m = some (.v (.map (some g)))) (hk : evA s k = some (.ag cs)) (hcs : KAs cs ks) (hks : Nat.beq ks.length n = true) (hmem : Mem1 (mapE g n l) h)
    (hl : lookL l ks = some y) : LV P o s h (some (mapE g n l)) (.tup [y, .v (.bool true)]) := lv_lookup2 M ho hm (by rw [hk, hcs.eq]) (Nat.eq_of_beq_eq_true hks) hmem (by rw [hl]; rfl)
theorem st_mupd (M : MK P mt n) {m k x : Operand} {g : Nat} {cs : List AV} {ks : List Int} {y : AV} {l l' : List (List Int × AV)} {h' : List Ent} (ho : o.op = .mapUpdate mt m k x) (hm : evA s m = some (.v (.map (some g)))) (hk : evA s k = some (.ag cs)) (hcs : KAs cs ks) (hks : Nat.beq ks.length n = true) (hx : evA s x = some y) (hd : o.dst = none)
    (hp : Repl h (mapE g n l) (mapE g n l') h') (hl : updL l ks y = l') (hmd : md g) (hK : K s h') : AOp P N o md s h K := aop_mapUpdate M ho hm (by rw [hk, hcs.eq]) (Nat.eq_of_beq_eq_true hks) hx hd hp hl hmd hK
theorem pv_cmpK {op : BinOp} {t t' : TypeId} {x z : Operand} {cs ds : List AV} {as bs : List Int} {r : Value} (ho : o.op = .binOp op t x z t') (hx : evA s x = some (.ag cs)) (hz : evA s z = some (.ag ds)) (h1 : KAs cs as) (h2 : KAs ds bs)
    (hr : ∀ w, (do eqGuard op t x z (kV as) (kV bs); binOp op t (kV as) (kV bs) : Sem Value).run P w = .ok r w) : PV P o s (.v r) := pv_eqK ho (by rw [hx, h1.eq]) (by rw [hz, h2.eq]) hr
theorem st_copy (T : TT P) {t t' d e bt n m c g : Nat} {x y : Operand} {cp : Bool} {f : Nat → List Tr} {T' : TypeId} {cs cs' : List AV} {h' : List Ent} (hcs : spA cs 0 (((List.range (min m n)).map fun k => (f k).map AV.ofTr).flatten) = cs') (ho : o.op = .call { callee := .builtin .copy, args := #[x, y], argTypes := #[t, t'] }) (hd : o.dst = some d) (hN : Nat.blt d N = true) (ht : f2 T.elm t = some (e, 1, bt))
    (hx : evA s x = some (.v (.slice (some ⟨g, 0, none⟩) n c))) (hy : evA s y = some (.t (.sl cp 1 m f))) (hp : Repl h (.cl g T' cs) (.cl g T' cs') h') (hn : Nat.beq cs.length n = true) (hone : ∀ k, k < m → ∀ u ∈ f k, oneA (AV.ofTr u) = true)
    (hmd : md g) (hK : K ((d, intA ((min m n : Nat) : Int)) :: s) h') : AOp P N o md s h K := aop_copy T ho hd hN ht hx hy hp (Nat.eq_of_beq_eq_true hn) hone hcs hmd hK
theorem aop_isnil {t t' d sz m : Nat} {x : Operand} {cp : Bool} {f : Nat → List Tr} (T : TT P) {e bt : Nat} (ho : o.op = .binOp .eql t x (.const (.slice none 0 0)) t') (hd : o.dst = some d) (hN : Nat.blt d N = true) (ht : f2 T.elm t = some (e, sz, bt)) (hx : evA s x = some (.t (.sl cp sz m f)))
    (hK : ∀ b, (0 < m → b = false) → K ((d, boolA b) :: s) h) : AOp P N o md s h K := fun B w S a hs Kr Qr hk => by
  obtain ⟨j, hund, hj, hjs, hjb, hne⟩ := T.elm_at ht
  have hxe := hs.slots.eval hx
  generalize hev : a.eval x = u0 at *
  cases hxe with
  | t hT =>
    cases hT with
    | @sl _ _ _ _ a0 c0 val hc hl hh ih =>
      have hrun : (execOp a.eval o).run P w = .ok (.value (.bool (a0.isNone))) w := by
        have e1 : a.eval (.const (.slice none 0 0)) = .slice none 0 0 := rfl
        have hb : ∀ w, (binOp .eql t (.slice a0 m c0) (.slice none 0 0)).run P w = .ok (.bool a0.isNone) w := fun w => by
          simp only [binOp]
          simp [run_equal_slice_nil w t e a0 m c0 hund]
        simp [execOp, ho, hev, e1, eqGuard, hb]
      unfold wpX
      rw [hd] at hk
      rw [hrun, Oper.uponIn_value, hd]
      refine hk _ _ S _ _ (hK a0.isNone (fun hm => ?_)) (hs.put (.v _) (blt_lt hN)) .refl
      obtain ⟨b, off, e, _⟩ := hh 0 hm
      rw [e]; rfl
theorem st_appt (T : TT P) {t d e sz bt m n : Nat} {z v : Value} {x y : Operand} {rows news : List (List AV)} {h1 : List Ent} {cp : Bool} {f : Nat → List Tr} (ho : o.op = .call { callee := .builtin .append, args := #[x, y], argTypes := #[t, t] }) (hd : o.dst = some d) (hN : Nat.blt d N = true)
    (ht : f2 T.elm t = some (e, sz, bt)) (hz : f2 T.zer e = some z) (hzs : z.cells.size = sz) (hbt : Nat.ble bt 1000 = true) (hx : evA s x = some (.v v)) (hy : evA s y = some (.t (.sl cp sz m f)))
    (hp : Pick h (.rw v e sz rows) h1) (hone : ∀ k, k < m → ∀ u ∈ f k, oneA (AV.ofTr u) = true) (hrl : rows.length = n) (hb : n + m ≤ 1000000) (hmd : ∀ b, v.ownBlock = some b → md b) (hnews : ((List.range m).map fun k => (f k).map AV.ofTr) = news)
    (hK : ∀ ad cap, (0 < m → ∃ g, ad = some ⟨g, 0, none⟩) → K ((d, .v (.slice ad (n + m) cap)) :: s) (.rw (.slice ad (n + m) cap) e sz (rows ++ news) :: h1)) : AOp P N o md s h K := by
  subst hrl
  subst hnews
  exact aop_append_t T ho hd (blt_lt hN) ht hz hzs hbt hx hy hp hb hone hmd hK
end
theorem intRows_range (xs : List Int) : ((List.range xs.length).map fun k => ([Tr.sc (.int .i64 (xs.getD k 0))]).map AV.ofTr) = xs.map intRow := by
  apply List.ext_getElem?
  intro k
  rcases Nat.lt_or_ge k xs.length with hk | hk
  · simp [hk, intRow, AV.ofTr]
  · simp [hk]
theorem acall_freeze {P : Program} {g : Nat} {args : List AV} {hc : List Ent} {E sz n : Nat} {rows : List (List AV)} {f : Nat → List Tr} (C : ACall P g args hc (fun r h' => ∃ v, r = .v v ∧ h' = [.rw v E sz rows])) (hn : rows.length = n) (hf : ∀ k, k < n → rows.getD k [] = (f k).map AV.ofTr) :
    ACall P g args hc (fun r h' => r = .t (.sl true sz n f) ∧ h' = []) := fun w S vs h1 h2 h3 =>
  (C w S vs h1 h2 h3).mono fun e w' ⟨v, S', r, h', e1, ⟨u, er, eh⟩, hvr, E', hlt, hr, hl⟩ => by
    subst er eh
    have e2 := hvr.lit_inv
    subst e2
    have he := hr.ent _ List.mem_cons_self
    refine ⟨v, _, _, [], e1, ⟨rfl, rfl⟩, .t (row_tree he hn hf), ⟨E'.os, E'.tape, E'.output, E'.size, E'.keep, fun b hb => .inl (E'.stab b hb), fun b hb => ?_⟩, fun b hb => ?_, .nil, fun e he => by cases he⟩
    · rcases hb with hb | hb
      · exact E'.new b hb
      · rcases hl _ List.mem_cons_self b hb with h | h
        · exact .inr (.inr h)
        · exact .inr (.inl h)
    · rcases hb with hb | hb
      · exact hlt b hb
      · exact he.lt b hb
end Go.Tl
namespace Go.Tl
open Go Go.RowKit
def AVLe (y y' : AV) : Prop := ∀ (w : World) (S : Nat → Prop) (v : Value), VRel w S y v → VRel w S y' v
theorem AVLe.refl (y : AV) : AVLe y y := fun _ _ _ h => h
theorem AVLe.t {t t' : Tr} (h : TrLe t t') : AVLe (.t t) (.t t') := fun w S v hv => by cases hv with | t hv => exact .t (h w S v hv)
inductive AVsLe : List AV → List AV → Prop where
  | nil : AVsLe [] []
  | cons {y y' : AV} {r r' : List AV} (h : AVLe y y') (hr : AVsLe r r') : AVsLe (y :: r) (y' :: r')
theorem AVsLe.rels {cs ds : List AV} (h : AVsLe cs ds) {w : World} {S : Nat → Prop} : ∀ {vs : List Value}, VRels w S cs vs → VRels w S ds vs := by
  induction h with
  | nil => exact fun h => h
  | cons h _ ih =>
    intro vs hv
    cases vs with
    | nil => have := hv.1; simp at this
    | cons v vs => exact .cons (h w S v (hv.2 0 _ v rfl rfl)) (ih ⟨by have := hv.1; simpa using this, fun j a b ha hb => hv.2 (j + 1) a b (by simpa using ha) (by simpa using hb)⟩)
theorem AVLe.ag {cs ds : List AV} (h : AVsLe cs ds) : AVLe (.ag cs) (.ag ds) := fun w S v hv => by
  cases hv with | ag hl hh => exact .ag (h.rels ⟨hl, hh⟩).1 (h.rels ⟨hl, hh⟩).2
theorem AVLe.tup {cs ds : List AV} (h : AVsLe cs ds) : AVLe (.tup cs) (.tup ds) := fun w S v hv => by
  cases hv with | tup hl hh => exact .tup (h.rels ⟨hl, hh⟩).1 (h.rels ⟨hl, hh⟩).2
theorem acall_le {P : Program} {f : Nat} {args : List AV} {hc : List Ent} {Q Q' : AV → List Ent → Prop} (C : ACall P f args hc Q) (H : ∀ r h', Q r h' → ∃ r', Q' r' h' ∧ AVLe r r') : ACall P f args hc Q' := fun w S vs h1 h2 h3 =>
  (C w S vs h1 h2 h3).mono fun e w' ⟨v, S', r, h', e1, hq, hv, rest⟩ => by
    obtain ⟨r', hq', hle⟩ := H r h' hq
    exact ⟨v, S', r', h', e1, hq', hle _ _ _ hv, rest⟩
theorem pcall_le {P : Program} {f : Nat} {args : List AV} {y y' : AV} (C : PCall P f args (fun r => r = y)) (H : AVLe y y') : PCall P f args (fun r => r = y') := acall_le C fun r h' ⟨h1, h2⟩ => ⟨y', ⟨rfl, h2⟩, by subst h1; exact H⟩
def cutQ (M : Slots → List Ent → Prop) (e : Exit) (s : Slots) (h : List Ent) : Prop := e = .normal ∧ ∃ s' h', SubS s' s ∧ SubH h' h ∧ M s' h'
theorem cut_n {M : Slots → List Ent → Prop} {s s' : Slots} {h h' : List Ent} (H : M s' h') (h1 : SubS s' s) (h2 : SubH h' h) : cutQ M .normal s h := ⟨rfl, s', h', h1, h2, H⟩
theorem awp_cut {P : Program} {N : Nat} {ro : Option Nat} {x y : Code} {Q Q' : Exit → Slots → List Ent → Prop} {s : Slots} {h : List Ent} (M : Slots → List Ent → Prop) (H1 : AWP P N ro x (cutQ M) s h) (H2 : ∀ s' h', M s' h' → AWP P N ro y Q s' h') : AWP P N ro x (thenQ (AWP P N ro y Q) Q') s h :=
  awp_mono H1 fun e s1 h1 ⟨he, s', h', hs, hh, hM⟩ => by
    subst he
    exact awp_weak hs hh (H2 s' h' hM)
theorem own_rw {v : Value} {E sz : Nat} {rows : List (List AV)} : ∀ b, v.ownBlock = some b → Own [.rw v E sz rows] b := fun _ hb => ⟨_, List.mem_singleton.2 rfl, hb⟩
section
variable {P : Program} {N : Nat} {o : Oper} {s : Slots} {h h1 : List Ent} {K : Slots → List Ent → Prop} {mt n : Nat}
theorem st_app_o (T : TT P) {t d e sz bt m c g' n : Nat} {z v : Value} {x y : Operand} {rows news : List (List AV)} (ho : o.op = .call { callee := .builtin .append, args := #[x, y], argTypes := #[t, t] }) (hd : o.dst = some d) (hN : Nat.blt d N = true)
    (ht : f2 T.elm t = some (e, sz, bt)) (hz : f2 T.zer e = some z) (hzs : z.cells.size = sz) (hbt : Nat.ble bt 1000 = true) (hx : evA s x = some (.v v)) (hy : evA s y = some (.v (.slice (some ⟨g', 0, none⟩) m c)))
    (hp : Pick h (.rw v e sz rows) h1) (hq : Mem1 (.rw (.slice (some ⟨g', 0, none⟩) m c) e sz news) h) (hm : Nat.beq news.length m = true) (hone : (news.flatten).all oneA = true) (hrl : rows.length = n) (hb : n + m ≤ 1000000) (hK : ∀ ad cap, (0 < m → ∃ g, ad = some ⟨g, 0, none⟩) → K ((d, .v (.slice ad (n + m) cap)) :: s) (.rw (.slice ad (n + m) cap) e sz (rows ++ news) :: h1)) : AOp P N o (Own [.rw v e sz rows]) s h K := st_app T ho hd hN ht hz hzs hbt hx hy hp hq hm hone hrl hb own_rw hK
end
end Go.Tl
namespace Go.Tl
open Go Go.RowKit
set_option linter.unusedVariables false
set_option linter.unusedSimpArgs false
def litA : AV → Bool
  | .v _ => true
  | _ => false
section
variable {P : Program} {N : Nat} {o : Oper} {md : Nat → Prop} {s : Slots} {h : List Ent} {K : Slots → List Ent → Prop}
end
end Go.Tl
