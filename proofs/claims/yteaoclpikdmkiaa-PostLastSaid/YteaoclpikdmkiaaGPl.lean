/- Joined texts: Plan, Plan2. -/
import Derived.OrdersHeld
import Derived.Deep.RegionHeld3
import Derived.Below
section
namespace Go.Proofs.Yteaoclpikdmkiaa
open Go
set_option linter.unusedVariables false

section
variable {P : Program} {ops : Array Oper} {Q : Exit → Act → World → Prop} {md : Region.Mode} {S : World → Prop}

/-- k must come before i -/
def isPre (md : Region.Mode) (ops : Array Oper) : Nat → Nat → Nat → Bool
  | 0, _, _ => false
  | f + 1, k, i => match ops[i]? with
    | none => false
    | some o => o.after.any fun e => Region.binds md e && (e.on == k || isPre md ops f k e.on)

def Closed (md : Region.Mode) (ops : Array Oper) (listed : Array Bool) : Prop :=
  ∀ j oj, ops[j]? = some oj → listed.getD j false = true → ∀ e ∈ oj.after, Region.binds md e = true → listed.getD e.on false = true

theorem Closed.start : Closed md ops (Array.replicate ops.size false) := fun j oj hj h => by
  rcases Nat.lt_or_ge j ops.size with h' | h'
  · simp [h'] at h
  · simp [h'] at h
theorem Closed.set {listed : Array Bool} (hc : Closed md ops listed) {i : Nat} (hi : i ∈ Region.ready md ops listed) : Closed md ops (listed.setIfInBounds i true) := fun j oj hj hl e he hb => by
  obtain ⟨_, oi, hoi, hall⟩ := mem_ready.1 hi
  by_cases hij : i = j
  · subst hij
    have : oj = oi := Option.some.inj (hj.symm.trans hoi)
    subst this
    exact getD_set_true (hall e he hb)
  · rw [getD_set_ne false hij] at hl
    exact getD_set_true (hc j oj hj hl e he hb)
theorem isPre_listed {listed : Array Bool} (hc : Closed md ops listed) : ∀ (f k i : Nat), isPre md ops f k i = true → (listed.getD i false = true ∨ i ∈ Region.ready md ops listed) → listed.getD k false = true := by
  intro f
  induction f with
  | zero => intro k i h; simp [isPre] at h
  | succ f ih =>
    intro k i h hi
    unfold isPre at h
    split at h
    · cases h
    · rename_i o ho
      obtain ⟨e, he, hb⟩ := Array.any_eq_true'.1 h
      simp only [Bool.and_eq_true, Bool.or_eq_true, beq_iff_eq] at hb
      have hon : listed.getD e.on false = true := by
        rcases hi with hi | hi
        · exact hc i o ho hi e he hb.1
        · obtain ⟨_, oi, hoi, hall⟩ := mem_ready.1 hi
          have : oi = o := Option.some.inj (hoi.symm.trans ho)
          subst this
          exact hall e he hb.1
      rcases hb.2 with h1 | h1
      · rw [← h1]; exact hon
      · exact ih k e.on h1 (.inl hon)

/-- Whatever order is picked: what keeps S keeps S. -/
def wpAnyS (P : Program) (md : Region.Mode) (ops : Array Oper) (Q : Exit → Act → World → Prop) (S : World → Prop) (ks : Nat → Bool) : Nat → Array Bool → Act → World → Prop
  | 0, listed, a, w => Region.ready md ops listed = [] ∧ Q .normal a w
  | fuel + 1, listed, a, w =>
    (Region.ready md ops listed = [] → Q .normal a w) ∧
    ∀ i ∈ Region.ready md ops listed, wpOp P ops Q i (fun a' w' => (ks i = true → S w → S w') ∧ wpAnyS P md ops Q S ks fuel (listed.setIfInBounds i true) a' w') a w

theorem wpAny_of_S {ks : Nat → Bool} : ∀ (fuel : Nat) (listed : Array Bool) (a : Act) (w : World), wpAnyS P md ops Q S ks fuel listed a w → wpAny P md ops Q fuel listed a w
  | 0, _, _, _, h => h
  | fuel + 1, _, _, _, h => ⟨h.1, fun i hi => wpOp_mono (fun a' w' h' => wpAny_of_S fuel _ a' w' h'.2) (h.2 i hi)⟩

/-- what only looks may be taken first -/
theorem wpAnyS_first {ks : Nat → Bool} {T : World → Prop} {i : Nat} {oi : Oper} {v : Value} (hi : ops[i]? = some oi) (hsel : ∀ (j : Nat) (o : Oper) cs b, ops[j]? = some o → o.op ≠ .select cs b)
    (hQ : ∀ c a d v w, Q (.panic c) (a.put d v) w → Q (.panic c) a w)
    (hT : ∀ (listed : Array Bool) (j : Nat), Closed md ops listed → j ∈ Region.ready md ops listed → listed.getD i true = false → j ≠ i → ∀ w w', T w → (ks j = true → S w → S w') → T w') :
    ∀ (fuel : Nat) (listed : Array Bool) (a : Act) (w : World), Closed md ops listed →
      (∀ j oj, ops[j]? = some oj → j ≠ i → listed.getD j true = false → (∀ e ∈ oj.after, Region.binds md e = true → e.on ≠ i) → oi.apart ops oj = true) →
      i ∈ Region.ready md ops listed → YieldsIf P ops T oi v a → T w →
      wpAnyS P md ops Q S ks fuel (listed.setIfInBounds i true) (a.put oi.dst v) w → wpAnyS P md ops Q S ks (fuel + 1) listed a w := by
  intro fuel
  induction fuel with
  | zero =>
    intro listed a w _ _ hr hy hS H
    refine ⟨fun h => (by rw [h] at hr; cases hr), fun j hj => ?_⟩
    by_cases hji : j = i
    · subst hji; exact hy.wpOp hi hS ⟨fun _ h => h, H⟩
    · have := ready_mono hj hji
      rw [H.1] at this
      cases this
  | succ fuel ih =>
    intro listed a w hcl hfree hr hy hS H
    refine ⟨fun h => (by rw [h] at hr; cases hr), fun j hj => ?_⟩
    by_cases hji : j = i
    · subst hji; exact hy.wpOp hi hS ⟨fun _ h => h, H⟩
    · have h1 := H.2 j (ready_mono hj hji)
      obtain ⟨hjun, oj, hoj, hall⟩ := mem_ready.1 hj
      have hiun := (mem_ready.1 hr).1
      have hnot : ∀ e ∈ oj.after, Region.binds md e = true → e.on ≠ i := fun e he hb heq => by
        have h1 := hall e he hb
        have h0 := (mem_ready.1 hr).1
        rw [heq] at h1
        rcases Nat.lt_or_ge i listed.size with h' | h'
        · simp [h'] at h0 h1; rw [h0] at h1; cases h1
        · simp [Array.getElem?_eq_none h'] at h1
      have h2 := wpOp_putIf hoj (hfree j oj hoj hji hjun hnot) (fun cs b => hsel i oi cs b hi) (fun cs b => hsel j oj cs b hoj) (fun c a w h => hQ c a _ _ w h) hy h1
      have hfree' : ∀ k ok, ops[k]? = some ok → k ≠ i → (listed.setIfInBounds j true).getD k true = false →
          (∀ e ∈ ok.after, Region.binds md e = true → e.on ≠ i) → oi.apart ops ok = true := fun k ok hk hki hun hno => by
        refine hfree k ok hk hki ?_ hno
        by_cases hjk : j = k
        · subst hjk; exact hjun
        · rw [getD_set_ne true hjk] at hun; exact hun
      refine wpOp_mono (fun a' w' h3 => ⟨h3.2.1, ih (listed.setIfInBounds j true) a' w' (hcl.set hj) hfree' (ready_mono hr (Ne.symm hji)) h3.1 (hT listed j hcl hj hiun hji w w' hS h3.2.1) ?_⟩) h2
      rw [Array.setIfInBounds_comm _ _ hji]
      exact h3.2.2

/-- 0: looks at nothing in memory; 1: looks; 2: writes or calls, and keeps S; 3: writes, and need not -/
def wpPlan (P : Program) (ops : Array Oper) (Q : Exit → Act → World → Prop) (S : World → Prop) : List (Nat × Nat) → Act → World → Prop
  | [], a, w => Q .normal a w
  | (i, 0) :: r, a, w => ∃ o v, ops[i]? = some o ∧ YieldsIf P ops (fun _ => True) o v a ∧ wpPlan P ops Q S r (a.put o.dst v) w
  | (i, 1) :: r, a, w => ∃ o v, ops[i]? = some o ∧ YieldsIf P ops S o v a ∧ wpPlan P ops Q S r (a.put o.dst v) w
  | (i, 2) :: r, a, w => wpOp P ops Q i (fun a' w' => S w' ∧ wpPlan P ops Q S r a' w') a w
  | (i, _) :: r, a, w => wpOp P ops Q i (wpPlan P ops Q S r) a w

def kindOf : List (Nat × Nat) → Nat → Nat
  | [], _ => 0
  | (i, k) :: r, j => if i = j then k else kindOf r j
def planOk (md : Region.Mode) (ops : Array Oper) (full : List (Nat × Nat)) : List (Nat × Nat) → Array Bool → Bool → Bool
  | [], listed, _ => (Region.ready md ops listed).isEmpty
  | (i, 0) :: r, listed, live => (Region.ready md ops listed).contains i && Region.free md ops listed i && planOk md ops full r (listed.setIfInBounds i true) live
  | (i, 1) :: r, listed, live => live && (Region.ready md ops listed).contains i && Region.free md ops listed i && (List.range ops.size).all (fun j => isPre md ops ops.size i j || kindOf full j != 3) && planOk md ops full r (listed.setIfInBounds i true) live
  | (i, 2) :: r, listed, live => (Region.ready md ops listed == [i]) && planOk md ops full r (listed.setIfInBounds i true) live
  | (i, 3) :: r, listed, _ => (Region.ready md ops listed == [i]) && (kindOf full i == 3) && planOk md ops full r (listed.setIfInBounds i true) false
  | _, _, _ => false

theorem getD_tf {listed : Array Bool} {i : Nat} (h : listed.getD i true = false) : listed.getD i false = false := by
  rcases Nat.lt_or_ge i listed.size with h' | h'
  · simp [h'] at h ⊢; exact h
  · simp [Array.getElem?_eq_none h'] at h

theorem wpAnyS_of_plan (hs : Region.noSelect ops = true) (hQ : ∀ c a d v w, Q (.panic c) (a.put d v) w → Q (.panic c) a w) (full : List (Nat × Nat)) :
    ∀ (plan : List (Nat × Nat)) (listed : Array Bool) (live : Bool) (a : Act) (w : World), planOk md ops full plan listed live = true → Closed md ops listed → (live = true → S w) →
      wpPlan P ops Q S plan a w → wpAnyS P md ops Q S (fun j => kindOf full j != 3) plan.length listed a w := by
  intro plan
  induction plan with
  | nil =>
    intro listed live a w hok _ _ h
    simp only [planOk, List.isEmpty_iff] at hok
    exact ⟨hok, h⟩
  | cons p r ih =>
    intro listed live a w hok hcl hS h
    obtain ⟨i, k⟩ := p
    match k with
    | 0 =>
      simp only [planOk, Bool.and_eq_true] at hok
      obtain ⟨o, v, ho, hy, hr⟩ := h
      refine wpAnyS_first (T := fun _ => True) ho (Region.noSelect_spec hs) hQ (fun _ _ _ _ _ _ _ _ _ _ => trivial) r.length listed a w hcl (Region.free_spec ho hok.1.2) (by simpa using hok.1.1) hy trivial ?_
      exact ih _ live _ w hok.2 (hcl.set (by simpa using hok.1.1)) hS hr
    | 1 =>
      simp only [planOk, Bool.and_eq_true] at hok
      obtain ⟨o, v, ho, hy, hr⟩ := h
      have hready : i ∈ Region.ready md ops listed := by simpa using hok.1.1.1.2
      refine wpAnyS_first (T := S) ho (Region.noSelect_spec hs) hQ ?_ r.length listed a w hcl (Region.free_spec ho hok.1.1.2) hready hy (hS hok.1.1.1.1) ?_
      · intro listed' j hcl' hj hun hji w w' hSw hk
        have hjs : j < ops.size := by
          obtain ⟨_, oj, hoj, _⟩ := mem_ready.1 hj
          exact (Array.getElem?_eq_some_iff.1 hoj).1
        have h1 := List.all_eq_true.1 hok.1.2 j (List.mem_range.2 hjs)
        simp only [Bool.or_eq_true] at h1
        rcases h1 with h1 | h1
        · have := isPre_listed hcl' _ _ _ h1 (.inr hj)
          rw [getD_tf hun] at this
          cases this
        · exact hk h1 hSw
      · exact ih _ live _ w hok.2 (hcl.set hready) hS hr
    | 2 =>
      simp only [planOk, Bool.and_eq_true, beq_iff_eq] at hok
      have hrd := hok.1
      refine ⟨fun h0 => (by rw [hrd] at h0; cases h0), fun j hj => ?_⟩
      have hj' := hj
      rw [hrd, List.mem_singleton] at hj'
      subst hj'
      exact wpOp_mono (fun a' w' h' => ⟨fun _ _ => h'.1, ih _ live a' w' hok.2 (hcl.set hj) (fun _ => h'.1) h'.2⟩) h
    | 3 =>
      simp only [planOk, Bool.and_eq_true, beq_iff_eq] at hok
      have hrd := hok.1.1
      refine ⟨fun h0 => (by rw [hrd] at h0; cases h0), fun j hj => ?_⟩
      have hj' := hj
      rw [hrd, List.mem_singleton] at hj'
      subst hj'
      exact wpOp_mono (fun a' w' h' => ⟨fun hx => by simp [hok.1.2] at hx, ih _ false a' w' hok.2 (hcl.set hj) (fun h0 => by cases h0) h'⟩) h
    | k + 4 => simp [planOk] at hok

def planB (ops : Array Oper) (plan : List (Nat × Nat)) : Bool := Region.noSelect ops && (plan.length == ops.size) && planOk .any ops plan plan (Array.replicate ops.size false) true

/-- a region that draws its order, along a plan; it is shown not to panic -/
theorem wp_region_plan (S : World → Prop) (plan : List (Nat × Nat)) {id : Nat} {a : Act} {w : World} (hm : P.follows .mixedOrders = true) (hok : planB ops plan = true)
    (hS : S w.drew) (h : wpPlan P ops (NoPanic Q) S plan a w.drew) : (Code.region id ops true).wp P Q a w := by
  refine wp_region_noPanic ?_
  simp only [planB, Bool.and_eq_true, beq_iff_eq] at hok
  refine wp_region_any hm ?_
  have := wpAny_of_S _ _ _ _ (wpAnyS_of_plan (P := P) (Q := NoPanic Q) (S := S) hok.1.1 (fun _ _ _ _ _ h => h) plan plan _ true a w.drew hok.2 Closed.start (fun _ => hS) h)
  rw [hok.1.2] at this
  exact this

theorem plan_end {a : Act} {w : World} (h : Q .normal a w) : wpPlan P ops (NoPanic Q) S [] a w := h
theorem plan_look0 {i : Nat} {r : List (Nat × Nat)} {a : Act} {w : World} {o : Oper} {v : Value} (ho : ops[i]? = some o) (hw : Region.wanted o (yielded ops a.tmps) = true)
    (hy : ∀ w', (execOp a.eval o).run P w' = .ok (.value v) w') (h : wpPlan P ops Q S r (a.put o.dst v) w) : wpPlan P ops Q S ((i, 0) :: r) a w := ⟨o, v, ho, .inl ⟨hw, fun w' _ => hy w'⟩, h⟩
theorem plan_look1 {i : Nat} {r : List (Nat × Nat)} {a : Act} {w : World} {o : Oper} {v : Value} (ho : ops[i]? = some o) (hw : Region.wanted o (yielded ops a.tmps) = true)
    (hy : ∀ w', S w' → (execOp a.eval o).run P w' = .ok (.value v) w') (h : wpPlan P ops Q S r (a.put o.dst v) w) : wpPlan P ops Q S ((i, 1) :: r) a w := ⟨o, v, ho, .inl ⟨hw, hy⟩, h⟩
theorem wpOp_of_if {i : Nat} {a : Act} {w : World} {o : Oper} {K : Act → World → Prop} (ho : ops[i]? = some o) (h : if Region.wanted o (yielded ops a.tmps) = true then Oper.wp P o a w K Q else K (a.put o.dst undef) w) : wpOp P ops Q i K a w := by
  unfold wpOp
  simp only [ho]
  split
  · rename_i hw; rw [if_pos hw] at h; exact .inl h
  · rename_i hw; rw [if_neg hw] at h; exact h
theorem plan_do2 {i : Nat} {r : List (Nat × Nat)} {a : Act} {w : World} {o : Oper} (ho : ops[i]? = some o)
    (h : ∀ K : Act → World → Prop, Go.RowKit.Hid (∀ a' w', S w' → wpPlan P ops Q S r a' w' → K a' w') → if Region.wanted o (yielded ops a.tmps) = true then Oper.wp P o a w K Q else K (a.put o.dst undef) w) : wpPlan P ops Q S ((i, 2) :: r) a w :=
  wpOp_of_if ho (h _ (fun _ _ h1 h2 => ⟨h1, h2⟩))
theorem plan_do3 {i : Nat} {r : List (Nat × Nat)} {a : Act} {w : World} {o : Oper} (ho : ops[i]? = some o)
    (h : ∀ K : Act → World → Prop, Go.RowKit.Hid (∀ a' w', wpPlan P ops Q S r a' w' → K a' w') → if Region.wanted o (yielded ops a.tmps) = true then Oper.wp P o a w K Q else K (a.put o.dst undef) w) : wpPlan P ops Q S ((i, 3) :: r) a w :=
  wpOp_of_if ho (h _ (fun _ _ h2 => h2))

end
end Go.Proofs.Yteaoclpikdmkiaa
end
section
namespace Go.Proofs.Yteaoclpikdmkiaa
open Go
set_option linter.unusedVariables false

section
variable {P : Program} {ops : Array Oper} {Q : Exit → Act → World → Prop} {md : Region.Mode} {S : World → Prop}

/-- an operation (its kind as in a plan) and what follows; or two operations that may come first -/
inductive PT where
  | stop
  | op (i k : Nat) (r : PT)
  | fork (i : Nat) (r : PT) (j : Nat) (s : PT)

def wpPT (P : Program) (ops : Array Oper) (Q : Exit → Act → World → Prop) (S : World → Prop) : PT → Act → World → Prop
  | .stop, a, w => Q .normal a w
  | .op i 0 r, a, w => ∃ o v, ops[i]? = some o ∧ YieldsIf P ops (fun _ => True) o v a ∧ wpPT P ops Q S r (a.put o.dst v) w
  | .op i 1 r, a, w => ∃ o v, ops[i]? = some o ∧ YieldsIf P ops S o v a ∧ wpPT P ops Q S r (a.put o.dst v) w
  | .op i 2 r, a, w => wpOp P ops Q i (fun a' w' => S w' ∧ wpPT P ops Q S r a' w') a w
  | .op i _ r, a, w => wpOp P ops Q i (wpPT P ops Q S r) a w
  | .fork i r j s, a, w => wpOp P ops Q i (fun a' w' => S w' ∧ wpPT P ops Q S r a' w') a w ∧ wpOp P ops Q j (fun a' w' => S w' ∧ wpPT P ops Q S s a' w') a w

/-- 'full' tells the kinds -/
def ptOk (md : Region.Mode) (ops : Array Oper) (full : List (Nat × Nat)) : PT → Nat → Array Bool → Bool → Bool
  | .stop, n, listed, _ => n == 0 && (Region.ready md ops listed).isEmpty
  | .op i 0 r, n + 1, listed, live => (Region.ready md ops listed).contains i && Region.free md ops listed i && ptOk md ops full r n (listed.setIfInBounds i true) live
  | .op i 1 r, n + 1, listed, live => live && (Region.ready md ops listed).contains i && Region.free md ops listed i && (List.range ops.size).all (fun j => isPre md ops ops.size i j || kindOf full j != 3) && ptOk md ops full r n (listed.setIfInBounds i true) live
  | .op i 2 r, n + 1, listed, live => (Region.ready md ops listed == [i]) && ptOk md ops full r n (listed.setIfInBounds i true) live
  | .op i 3 r, n + 1, listed, _ => (Region.ready md ops listed == [i]) && (kindOf full i == 3) && ptOk md ops full r n (listed.setIfInBounds i true) false
  | .fork i r j s, n + 1, listed, live => (Region.ready md ops listed == [i, j]) && ptOk md ops full r n (listed.setIfInBounds i true) live && ptOk md ops full s n (listed.setIfInBounds j true) live
  | _, _, _, _ => false

theorem wpAnyS_of_tree (hs : Region.noSelect ops = true) (hQ : ∀ c a d v w, Q (.panic c) (a.put d v) w → Q (.panic c) a w) (full : List (Nat × Nat)) :
    ∀ (t : PT) (n : Nat) (listed : Array Bool) (live : Bool) (a : Act) (w : World), ptOk md ops full t n listed live = true → Closed md ops listed → (live = true → S w) →
      wpPT P ops Q S t a w → wpAnyS P md ops Q S (fun j => kindOf full j != 3) n listed a w := by
  intro t
  induction t with
  | stop =>
    intro n listed live a w hok _ _ h
    simp only [ptOk, Bool.and_eq_true, beq_iff_eq, List.isEmpty_iff] at hok
    rw [hok.1]
    exact ⟨hok.2, h⟩
  | op i k r ih =>
    intro n listed live a w hok hcl hS h
    match n, k with
    | 0, 0 => simp [ptOk] at hok
    | 0, 1 => simp [ptOk] at hok
    | 0, 2 => simp [ptOk] at hok
    | 0, k + 3 => simp [ptOk] at hok
    | n + 1, 0 =>
      simp only [ptOk, Bool.and_eq_true] at hok
      obtain ⟨o, v, ho, hy, hr⟩ := h
      refine wpAnyS_first (T := fun _ => True) ho (Region.noSelect_spec hs) hQ (fun _ _ _ _ _ _ _ _ _ _ => trivial) n listed a w hcl (Region.free_spec ho hok.1.2) (by simpa using hok.1.1) hy trivial ?_
      exact ih n _ live _ w hok.2 (hcl.set (by simpa using hok.1.1)) hS hr
    | n + 1, 1 =>
      simp only [ptOk, Bool.and_eq_true] at hok
      obtain ⟨o, v, ho, hy, hr⟩ := h
      have hready : i ∈ Region.ready md ops listed := by simpa using hok.1.1.1.2
      refine wpAnyS_first (T := S) ho (Region.noSelect_spec hs) hQ ?_ n listed a w hcl (Region.free_spec ho hok.1.1.2) hready hy (hS hok.1.1.1.1) ?_
      · intro listed' j hcl' hj hun hji w w' hSw hk
        have hjs : j < ops.size := by
          obtain ⟨_, oj, hoj, _⟩ := mem_ready.1 hj
          exact (Array.getElem?_eq_some_iff.1 hoj).1
        have h1 := List.all_eq_true.1 hok.1.2 j (List.mem_range.2 hjs)
        simp only [Bool.or_eq_true] at h1
        rcases h1 with h1 | h1
        · have := isPre_listed hcl' _ _ _ h1 (.inr hj)
          rw [getD_tf hun] at this
          cases this
        · exact hk h1 hSw
      · exact ih n _ live _ w hok.2 (hcl.set hready) hS hr
    | n + 1, 2 =>
      simp only [ptOk, Bool.and_eq_true, beq_iff_eq] at hok
      have hrd := hok.1
      refine ⟨fun h0 => (by rw [hrd] at h0; cases h0), fun j hj => ?_⟩
      have hj' := hj
      rw [hrd, List.mem_singleton] at hj'
      subst hj'
      exact wpOp_mono (fun a' w' h' => ⟨fun _ _ => h'.1, ih n _ live a' w' hok.2 (hcl.set hj) (fun _ => h'.1) h'.2⟩) h
    | n + 1, 3 =>
      simp only [ptOk, Bool.and_eq_true, beq_iff_eq] at hok
      have hrd := hok.1.1
      refine ⟨fun h0 => (by rw [hrd] at h0; cases h0), fun j hj => ?_⟩
      have hj' := hj
      rw [hrd, List.mem_singleton] at hj'
      subst hj'
      exact wpOp_mono (fun a' w' h' => ⟨fun hx => by simp [hok.1.2] at hx, ih n _ false a' w' hok.2 (hcl.set hj) (fun h0 => by cases h0) h'⟩) h
    | n + 1, k + 4 => simp [ptOk] at hok
  | fork i r j s ihr ihs =>
    intro n listed live a w hok hcl hS h
    match n with
    | 0 => simp [ptOk] at hok
    | n + 1 =>
      simp only [ptOk, Bool.and_eq_true, beq_iff_eq] at hok
      have hrd := hok.1.1
      refine ⟨fun h0 => (by rw [hrd] at h0; cases h0), fun m hm => ?_⟩
      have hm' := hm
      rw [hrd, List.mem_cons, List.mem_singleton] at hm'
      rcases hm' with rfl | rfl
      · exact wpOp_mono (fun a' w' h' => ⟨fun _ _ => h'.1, ihr n _ live a' w' hok.1.2 (hcl.set hm) (fun _ => h'.1) h'.2⟩) h.1
      · exact wpOp_mono (fun a' w' h' => ⟨fun _ _ => h'.1, ihs n _ live a' w' hok.2 (hcl.set hm) (fun _ => h'.1) h'.2⟩) h.2

def treeB (ops : Array Oper) (full : List (Nat × Nat)) (t : PT) : Bool := Region.noSelect ops && ptOk .any ops full t ops.size (Array.replicate ops.size false) true

/-- a region that draws its order, along a tree; it is shown not to panic -/
theorem wp_region_tree (S : World → Prop) (full : List (Nat × Nat)) (t : PT) {id : Nat} {a : Act} {w : World} (hm : P.follows .mixedOrders = true) (hok : treeB ops full t = true)
    (hS : S w.drew) (h : wpPT P ops (NoPanic Q) S t a w.drew) : (Code.region id ops true).wp P Q a w := by
  refine wp_region_noPanic ?_
  simp only [treeB, Bool.and_eq_true] at hok
  refine wp_region_any hm ?_
  exact wpAny_of_S _ _ _ _ (wpAnyS_of_tree (P := P) (Q := NoPanic Q) (S := S) hok.1 (fun _ _ _ _ _ h => h) full t _ _ true a w.drew hok.2 Closed.start (fun _ => hS) h)

theorem tree_end {a : Act} {w : World} (h : Q .normal a w) : wpPT P ops (NoPanic Q) S .stop a w := h
theorem tree_look0 {i : Nat} {r : PT} {a : Act} {w : World} {o : Oper} {v : Value} (ho : ops[i]? = some o) (hw : Region.wanted o (yielded ops a.tmps) = true)
    (hy : ∀ w', (execOp a.eval o).run P w' = .ok (.value v) w') (h : wpPT P ops Q S r (a.put o.dst v) w) : wpPT P ops Q S (.op i 0 r) a w := ⟨o, v, ho, .inl ⟨hw, fun w' _ => hy w'⟩, h⟩
theorem tree_look1 {i : Nat} {r : PT} {a : Act} {w : World} {o : Oper} {v : Value} (ho : ops[i]? = some o) (hw : Region.wanted o (yielded ops a.tmps) = true)
    (hy : ∀ w', S w' → (execOp a.eval o).run P w' = .ok (.value v) w') (h : wpPT P ops Q S r (a.put o.dst v) w) : wpPT P ops Q S (.op i 1 r) a w := ⟨o, v, ho, .inl ⟨hw, hy⟩, h⟩
theorem tree_do2 {i : Nat} {r : PT} {a : Act} {w : World} {o : Oper} (ho : ops[i]? = some o)
    (h : ∀ K : Act → World → Prop, Go.RowKit.Hid (∀ a' w', S w' → wpPT P ops Q S r a' w' → K a' w') → if Region.wanted o (yielded ops a.tmps) = true then Oper.wp P o a w K Q else K (a.put o.dst undef) w) : wpPT P ops Q S (.op i 2 r) a w :=
  wpOp_of_if ho (h _ (fun _ _ h1 h2 => ⟨h1, h2⟩))
theorem tree_do3 {i : Nat} {r : PT} {a : Act} {w : World} {o : Oper} (ho : ops[i]? = some o)
    (h : ∀ K : Act → World → Prop, Go.RowKit.Hid (∀ a' w', wpPT P ops Q S r a' w' → K a' w') → if Region.wanted o (yielded ops a.tmps) = true then Oper.wp P o a w K Q else K (a.put o.dst undef) w) : wpPT P ops Q S (.op i 3 r) a w :=
  wpOp_of_if ho (h _ (fun _ _ h2 => h2))
theorem tree_fork {i j : Nat} {r s : PT} {a : Act} {w : World} (h1 : wpPT P ops Q S (.op i 2 r) a w) (h2 : wpPT P ops Q S (.op j 2 s) a w) : wpPT P ops Q S (.fork i r j s) a w := ⟨h1, h2⟩
/-- an operation that is guarded away -/
theorem plan_skip0 {i : Nat} {r : List (Nat × Nat)} {a : Act} {w : World} {o : Oper} (ho : ops[i]? = some o) (hw : Region.wanted o (yielded ops a.tmps) = false) (h : wpPlan P ops Q S r (a.put o.dst undef) w) : wpPlan P ops Q S ((i, 0) :: r) a w := ⟨o, _, ho, .inr ⟨hw, rfl⟩, h⟩
theorem plan_skip1 {i : Nat} {r : List (Nat × Nat)} {a : Act} {w : World} {o : Oper} (ho : ops[i]? = some o) (hw : Region.wanted o (yielded ops a.tmps) = false) (h : wpPlan P ops Q S r (a.put o.dst undef) w) : wpPlan P ops Q S ((i, 1) :: r) a w := ⟨o, _, ho, .inr ⟨hw, rfl⟩, h⟩
end
end Go.Proofs.Yteaoclpikdmkiaa
end
