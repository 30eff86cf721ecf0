/- A region that draws its order, walked along a tree of plans: where two operations that write may come first, both ways are walked. No program in sight. -/
import Derived.Test.YtfiacjdkdjkiiaaPlan
namespace Go.Proofs.Ytfiacjdkdjkiiaa
open Go
set_option linter.unusedVariables false

section
variable {P : Program} {ops : Array Oper} {Q : Exit → Act → World → Prop} {md : Region.Mode} {S : World → Prop}

/-- an operation (its kind as in a plan) and what follows; or two operations that may come first -/
inductive PT where
  | stop
  | op (i k : Nat) (r : PT)
  | fork (i : Nat) (r : PT) (j : Nat) (s : PT)

def wpPT (P : Program) (ops : Array Oper) (Q : Exit → Act → World → Prop) (S : World → Prop) : PT → Act → World → Prop
  | .stop, a, w => Q .normal a w
  | .op i 0 r, a, w => ∃ o v, ops[i]? = some o ∧ YieldsIf P ops (fun _ => True) o v a ∧ wpPT P ops Q S r (a.put o.dst v) w
  | .op i 1 r, a, w => ∃ o v, ops[i]? = some o ∧ YieldsIf P ops S o v a ∧ wpPT P ops Q S r (a.put o.dst v) w
  | .op i 2 r, a, w => wpOp P ops Q i (fun a' w' => S w' ∧ wpPT P ops Q S r a' w') a w
  | .op i _ r, a, w => wpOp P ops Q i (wpPT P ops Q S r) a w
  | .fork i r j s, a, w => wpOp P ops Q i (fun a' w' => S w' ∧ wpPT P ops Q S r a' w') a w ∧ wpOp P ops Q j (fun a' w' => S w' ∧ wpPT P ops Q S s a' w') a w

/-- 'full' tells the kinds -/
def ptOk (md : Region.Mode) (ops : Array Oper) (full : List (Nat × Nat)) : PT → Nat → Array Bool → Bool → Bool
  | .stop, n, listed, _ => n == 0 && (Region.ready md ops listed).isEmpty
  | .op i 0 r, n + 1, listed, live => (Region.ready md ops listed).contains i && Region.free md ops listed i && ptOk md ops full r n (listed.setIfInBounds i true) live
  | .op i 1 r, n + 1, listed, live => live && (Region.ready md ops listed).contains i && Region.free md ops listed i && (List.range ops.size).all (fun j => isPre md ops ops.size i j || kindOf full j != 3) && ptOk md ops full r n (listed.setIfInBounds i true) live
  | .op i 2 r, n + 1, listed, live => (Region.ready md ops listed == [i]) && ptOk md ops full r n (listed.setIfInBounds i true) live
  | .op i 3 r, n + 1, listed, _ => (Region.ready md ops listed == [i]) && (kindOf full i == 3) && ptOk md ops full r n (listed.setIfInBounds i true) false
  | .fork i r j s, n + 1, listed, live => (Region.ready md ops listed == [i, j]) && ptOk md ops full r n (listed.setIfInBounds i true) live && ptOk md ops full s n (listed.setIfInBounds j true) live
  | _, _, _, _ => false

theorem wpAnyS_of_tree (hs : Region.noSelect ops = true) (hQ : ∀ c a d v w, Q (.panic c) (a.put d v) w → Q (.panic c) a w) (full : List (Nat × Nat)) :
    ∀ (t : PT) (n : Nat) (listed : Array Bool) (live : Bool) (a : Act) (w : World), ptOk md ops full t n listed live = true → Closed md ops listed → (live = true → S w) →
      wpPT P ops Q S t a w → wpAnyS P md ops Q S (fun j => kindOf full j != 3) n listed a w := by
  intro t
  induction t with
  | stop =>
    intro n listed live a w hok _ _ h
    simp only [ptOk, Bool.and_eq_true, beq_iff_eq, List.isEmpty_iff] at hok
    rw [hok.1]
    exact ⟨hok.2, h⟩
  | op i k r ih =>
    intro n listed live a w hok hcl hS h
    match n, k with
    | 0, 0 => simp [ptOk] at hok
    | 0, 1 => simp [ptOk] at hok
    | 0, 2 => simp [ptOk] at hok
    | 0, k + 3 => simp [ptOk] at hok
    | n + 1, 0 =>
      simp only [ptOk, Bool.and_eq_true] at hok
      obtain ⟨o, v, ho, hy, hr⟩ := h
      refine wpAnyS_first (T := fun _ => True) ho (Region.noSelect_spec hs) hQ (fun _ _ _ _ _ _ _ _ _ _ => trivial) n listed a w hcl (Region.free_spec ho hok.1.2) (by simpa using hok.1.1) hy trivial ?_
      exact ih n _ live _ w hok.2 (hcl.set (by simpa using hok.1.1)) hS hr
    | n + 1, 1 =>
      simp only [ptOk, Bool.and_eq_true] at hok
      obtain ⟨o, v, ho, hy, hr⟩ := h
      have hready : i ∈ Region.ready md ops listed := by simpa using hok.1.1.1.2
      refine wpAnyS_first (T := S) ho (Region.noSelect_spec hs) hQ ?_ n listed a w hcl (Region.free_spec ho hok.1.1.2) hready hy (hS hok.1.1.1.1) ?_
      · intro listed' j hcl' hj hun hji w w' hSw hk
        have hjs : j < ops.size := by
          obtain ⟨_, oj, hoj, _⟩ := mem_ready.1 hj
          exact (Array.getElem?_eq_some_iff.1 hoj).1
        have h1 := List.all_eq_true.1 hok.1.2 j (List.mem_range.2 hjs)
        simp only [Bool.or_eq_true] at h1
        rcases h1 with h1 | h1
        · have := isPre_listed hcl' _ _ _ h1 (.inr hj)
          rw [getD_tf hun] at this
          cases this
        · exact hk h1 hSw
      · exact ih n _ live _ w hok.2 (hcl.set hready) hS hr
    | n + 1, 2 =>
      simp only [ptOk, Bool.and_eq_true, beq_iff_eq] at hok
      have hrd := hok.1
      refine ⟨fun h0 => (by rw [hrd] at h0; cases h0), fun j hj => ?_⟩
      have hj' := hj
      rw [hrd, List.mem_singleton] at hj'
      subst hj'
      exact wpOp_mono (fun a' w' h' => ⟨fun _ _ => h'.1, ih n _ live a' w' hok.2 (hcl.set hj) (fun _ => h'.1) h'.2⟩) h
    | n + 1, 3 =>
      simp only [ptOk, Bool.and_eq_true, beq_iff_eq] at hok
      have hrd := hok.1.1
      refine ⟨fun h0 => (by rw [hrd] at h0; cases h0), fun j hj => ?_⟩
      have hj' := hj
      rw [hrd, List.mem_singleton] at hj'
      subst hj'
      exact wpOp_mono (fun a' w' h' => ⟨fun hx => by simp [hok.1.2] at hx, ih n _ false a' w' hok.2 (hcl.set hj) (fun h0 => by cases h0) h'⟩) h
    | n + 1, k + 4 => simp [ptOk] at hok
  | fork i r j s ihr ihs =>
    intro n listed live a w hok hcl hS h
    match n with
    | 0 => simp [ptOk] at hok
    | n + 1 =>
      simp only [ptOk, Bool.and_eq_true, beq_iff_eq] at hok
      have hrd := hok.1.1
      refine ⟨fun h0 => (by rw [hrd] at h0; cases h0), fun m hm => ?_⟩
      have hm' := hm
      rw [hrd, List.mem_cons, List.mem_singleton] at hm'
      rcases hm' with rfl | rfl
      · exact wpOp_mono (fun a' w' h' => ⟨fun _ _ => h'.1, ihr n _ live a' w' hok.1.2 (hcl.set hm) (fun _ => h'.1) h'.2⟩) h.1
      · exact wpOp_mono (fun a' w' h' => ⟨fun _ _ => h'.1, ihs n _ live a' w' hok.2 (hcl.set hm) (fun _ => h'.1) h'.2⟩) h.2

def treeB (ops : Array Oper) (full : List (Nat × Nat)) (t : PT) : Bool := Region.noSelect ops && ptOk .any ops full t ops.size (Array.replicate ops.size false) true

/-- a region that draws its order, along a tree; it is shown not to panic -/
theorem wp_region_tree (S : World → Prop) (full : List (Nat × Nat)) (t : PT) {id : Nat} {a : Act} {w : World} (hm : P.follows .mixedOrders = true) (hok : treeB ops full t = true)
    (hS : S w.drew) (h : wpPT P ops (NoPanic Q) S t a w.drew) : (Code.region id ops true).wp P Q a w := by
  refine wp_region_noPanic ?_
  simp only [treeB, Bool.and_eq_true] at hok
  refine wp_region_any hm ?_
  exact wpAny_of_S _ _ _ _ (wpAnyS_of_tree (P := P) (Q := NoPanic Q) (S := S) hok.1 (fun _ _ _ _ _ h => h) full t _ _ true a w.drew hok.2 Closed.start (fun _ => hS) h)

theorem tree_end {a : Act} {w : World} (h : Q .normal a w) : wpPT P ops (NoPanic Q) S .stop a w := h
theorem tree_look0 {i : Nat} {r : PT} {a : Act} {w : World} {o : Oper} {v : Value} (ho : ops[i]? = some o) (hw : Region.wanted o (yielded ops a.tmps) = true)
    (hy : ∀ w', (execOp a.eval o).run P w' = .ok (.value v) w') (h : wpPT P ops Q S r (a.put o.dst v) w) : wpPT P ops Q S (.op i 0 r) a w := ⟨o, v, ho, .inl ⟨hw, fun w' _ => hy w'⟩, h⟩
theorem tree_look1 {i : Nat} {r : PT} {a : Act} {w : World} {o : Oper} {v : Value} (ho : ops[i]? = some o) (hw : Region.wanted o (yielded ops a.tmps) = true)
    (hy : ∀ w', S w' → (execOp a.eval o).run P w' = .ok (.value v) w') (h : wpPT P ops Q S r (a.put o.dst v) w) : wpPT P ops Q S (.op i 1 r) a w := ⟨o, v, ho, .inl ⟨hw, hy⟩, h⟩
theorem tree_do2 {i : Nat} {r : PT} {a : Act} {w : World} {o : Oper} (ho : ops[i]? = some o)
    (h : ∀ K : Act → World → Prop, Go.RowKit.Hid (∀ a' w', S w' → wpPT P ops Q S r a' w' → K a' w') → if Region.wanted o (yielded ops a.tmps) = true then Oper.wp P o a w K Q else K (a.put o.dst undef) w) : wpPT P ops Q S (.op i 2 r) a w :=
  wpOp_of_if ho (h _ (fun _ _ h1 h2 => ⟨h1, h2⟩))
theorem tree_do3 {i : Nat} {r : PT} {a : Act} {w : World} {o : Oper} (ho : ops[i]? = some o)
    (h : ∀ K : Act → World → Prop, Go.RowKit.Hid (∀ a' w', wpPT P ops Q S r a' w' → K a' w') → if Region.wanted o (yielded ops a.tmps) = true then Oper.wp P o a w K Q else K (a.put o.dst undef) w) : wpPT P ops Q S (.op i 3 r) a w :=
  wpOp_of_if ho (h _ (fun _ _ h2 => h2))
theorem tree_fork {i j : Nat} {r s : PT} {a : Act} {w : World} (h1 : wpPT P ops Q S (.op i 2 r) a w) (h2 : wpPT P ops Q S (.op j 2 s) a w) : wpPT P ops Q S (.fork i r j s) a w := ⟨h1, h2⟩
/-- an operation that is guarded away -/
theorem plan_skip0 {i : Nat} {r : List (Nat × Nat)} {a : Act} {w : World} {o : Oper} (ho : ops[i]? = some o) (hw : Region.wanted o (yielded ops a.tmps) = false) (h : wpPlan P ops Q S r (a.put o.dst undef) w) : wpPlan P ops Q S ((i, 0) :: r) a w := ⟨o, _, ho, .inr ⟨hw, rfl⟩, h⟩
theorem plan_skip1 {i : Nat} {r : List (Nat × Nat)} {a : Act} {w : World} {o : Oper} (ho : ops[i]? = some o) (hw : Region.wanted o (yielded ops a.tmps) = false) (h : wpPlan P ops Q S r (a.put o.dst undef) w) : wpPlan P ops Q S ((i, 1) :: r) a w := ⟨o, _, ho, .inr ⟨hw, rfl⟩, h⟩
end
end Go.Proofs.Ytfiacjdkdjkiiaa
