/- Joined texts: Plan, Plan2. -/
import Derived.OrdersHeld
import Derived.Deep.RegionHeld3
import Derived.Below
section
namespace Go.Proofs.Ytlpknbneilgjkaa
open Go
set_option linter.unusedVariables false

section
variable {P : Program} {ops : Array Oper} {Q : Exit → Act → World → Prop} {md : Region.Mode} {S : World → Prop}

/-- k must come before i -/
def isPre (md : Region.Mode) (ops : Array Oper) : Nat → Nat → Nat → Bool
  | 0, _, _ => false
  | f + 1, k, i => match ops[i]? with
    | none => false
    | some o => o.after.any fun e => Region.binds md e && (e.on == k || isPre md ops f k e.on)

def Closed (md : Region.Mode) (ops : Array Oper) (listed : Array Bool) : Prop :=
  ∀ j oj, ops[j]? = some oj → listed.getD j false = true → ∀ e ∈ oj.after, Region.binds md e = true → listed.getD e.on false = true

theorem Closed.start : Closed md ops (Array.replicate ops.size false) := fun j oj hj h => by
  rcases Nat.lt_or_ge j ops.size with h' | h'
  · simp [h'] at h
  · simp [h'] at h
theorem Closed.set {listed : Array Bool} (hc : Closed md ops listed) {i : Nat} (hi : i ∈ Region.ready md ops listed) : Closed md ops (listed.setIfInBounds i true) := fun j oj hj hl e he hb => by
  obtain ⟨_, oi, hoi, hall⟩ := mem_ready.1 hi
  by_cases hij : i = j
  · subst hij
    have : oj = oi := Option.some.inj (hj.symm.trans hoi)
    subst this
    exact getD_set_true (hall e he hb)
  · rw [getD_set_ne false hij] at hl
    exact getD_set_true (hc j oj hj hl e he hb)
theorem isPre_listed {listed : Array Bool} (hc : Closed md ops listed) : ∀ (f k i : Nat), isPre md ops f k i = true → (listed.getD i false = true ∨ i ∈ Region.ready md ops listed) → listed.getD k false = true := by
  intro f
  induction f with
  | zero => intro k i h; simp [isPre] at h
  | succ f ih =>
    intro k i h hi
    unfold isPre at h
    split at h
    · cases h
    · rename_i o ho
      obtain ⟨e, he, hb⟩ := Array.any_eq_true'.1 h
      simp only [Bool.and_eq_true, Bool.or_eq_true, beq_iff_eq] at hb
      have hon : listed.getD e.on false = true := by
        rcases hi with hi | hi
        · exact hc i o ho hi e he hb.1
        · obtain ⟨_, oi, hoi, hall⟩ := mem_ready.1 hi
          have : oi = o := Option.some.inj (hoi.symm.trans ho)
          subst this
          exact hall e he hb.1
      rcases hb.2 with h1 | h1
      · rw [← h1]; exact hon
      · exact ih k e.on h1 (.inl hon)

def kindOf : List (Nat × Nat) → Nat → Nat
  | [], _ => 0
  | (i, k) :: r, j => if i = j then k else kindOf r j
theorem getD_tf {listed : Array Bool} {i : Nat} (h : listed.getD i true = false) : listed.getD i false = false := by
  rcases Nat.lt_or_ge i listed.size with h' | h'
  · simp [h'] at h ⊢; exact h
  · simp [Array.getElem?_eq_none h'] at h

end
end Go.Proofs.Ytlpknbneilgjkaa
end
section
namespace Go.Proofs.Ytlpknbneilgjkaa
open Go
set_option linter.unusedVariables false

section
variable {P : Program} {ops : Array Oper} {Q : Exit → Act → World → Prop} {md : Region.Mode} {S : World → Prop}

/-- an operation (its kind as in a plan) and what follows; or two operations that may come first -/
inductive PT where
  | stop
  | op (i k : Nat) (r : PT)
  | fork (i : Nat) (r : PT) (j : Nat) (s : PT)

/-- 'full' tells the kinds -/
def ptOk (md : Region.Mode) (ops : Array Oper) (full : List (Nat × Nat)) : PT → Nat → Array Bool → Bool → Bool
  | .stop, n, listed, _ => n == 0 && (Region.ready md ops listed).isEmpty
  | .op i 0 r, n + 1, listed, live => (Region.ready md ops listed).contains i && Region.free md ops listed i && ptOk md ops full r n (listed.setIfInBounds i true) live
  | .op i 1 r, n + 1, listed, live => live && (Region.ready md ops listed).contains i && Region.free md ops listed i && (List.range ops.size).all (fun j => isPre md ops ops.size i j || kindOf full j != 3) && ptOk md ops full r n (listed.setIfInBounds i true) live
  | .op i 2 r, n + 1, listed, live => (Region.ready md ops listed == [i]) && ptOk md ops full r n (listed.setIfInBounds i true) live
  | .op i 3 r, n + 1, listed, _ => (Region.ready md ops listed == [i]) && (kindOf full i == 3) && ptOk md ops full r n (listed.setIfInBounds i true) false
  | .fork i r j s, n + 1, listed, live => (Region.ready md ops listed == [i, j]) && ptOk md ops full r n (listed.setIfInBounds i true) live && ptOk md ops full s n (listed.setIfInBounds j true) live
  | _, _, _, _ => false

def treeB (ops : Array Oper) (full : List (Nat × Nat)) (t : PT) : Bool := Region.noSelect ops && ptOk .any ops full t ops.size (Array.replicate ops.size false) true

end
end Go.Proofs.Ytlpknbneilgjkaa
end
