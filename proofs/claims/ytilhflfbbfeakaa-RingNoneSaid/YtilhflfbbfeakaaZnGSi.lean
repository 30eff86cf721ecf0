/- Joined texts: Si0, Si. -/
import Derived.Test.YtilhflfbbfeakaaZnGBf
import Derived.Test.YtilhflfbbfeakaaZnGMp
import Derived.Test.YtilhflfbbfeakaaZnGRi
import Derived.Test.YtilhflfbbfeakaaTz
section
namespace Go.Tl
open Go Go.RowKit
set_option linter.unusedSimpArgs false
set_option linter.unusedVariables false
theorem pv_slice_lo_t {P : Program} {o : Oper} {s : Slots} (T : TT P) {t e sz bt n k : Nat} {x y : Operand} {f : Nat → List Tr} {kd : IntKind} {i : Int} (ho : o.op = .slice t x (some y) none none) (hx : evA s x = some (.t (.sl true sz n f))) (hy : evA s y = some (.v (.int kd i))) (ht : f2 T.elm t = some (e, sz, bt)) (hk : i = (k : Int)) (hkn : k < n) : PV P o s (.t (.sl true sz (n - k) (fun q => f (k + q)))) := fun w S a hs => by
  obtain ⟨j, hund, hj, hjs, hjb, hne⟩ := T.elm_at ht
  have h1 := hs.eval hx
  subst hk
  generalize hv : a.eval x = v at *
  cases h1 with
  | t h1 =>
    cases h1 with
    | @sl _ _ _ _ a0 c val hc hl h ih =>
      have hcn := hc rfl
      obtain ⟨b, off, e1, _, _⟩ := h k hkn
      subst e1
      refine ⟨.slice (some ⟨b, off + k * sz, none⟩) (n - k) (c - k), fun w' => ?_, .t (.sl (fun q => val (k + q)) (fun _ => by omega) (fun q hq => hl (k + q) (by omega)) (fun q hq => ?_) (fun q r z hq hz => ih (k + q) r z (by omega) hz))⟩
      · have e1 : (k : Int) ≤ (n : Int) := by omega
        have e2 : ¬ c = k := by omega
        simp [execOp, ho, hv, hs.lit hy, Instr.sliceAt, Instr.slice, run_underlying hund, Instr.sliceBounds, Instr.sliceBound, asIntOf, e1, run_sizeOf' hj, hjs, e2, Addr.add_lit]
        intro hlt
        exact absurd hlt (by omega)
      · obtain ⟨b', off', e1, e2, e3⟩ := h (k + q) (by omega)
        simp at e1
        obtain ⟨rfl, rfl⟩ := e1
        refine ⟨b, off + k * sz, rfl, e2, fun r hr => ?_⟩
        have := e3 r hr
        rw [← this]
        congr 2
        rw [Nat.add_mul]
        omega
end Go.Tl
namespace Go.Proofs.Ytilhflfbbfeakaa
open Go Go.RowKit Go.Tl
set_option linter.unusedVariables false
set_option linter.unusedSimpArgs false
set_option maxRecDepth 100000
set_option maxHeartbeats 4000000
attribute [local irreducible] AWP AWL AOp PV LV AWT AWE
end Go.Proofs.Ytilhflfbbfeakaa
end
section
namespace Go.Proofs.Ytilhflfbbfeakaa
open Go Go.RowKit Go.Tl
set_option linter.unusedVariables false
set_option linter.unusedSimpArgs false
set_option maxRecDepth 100000
set_option maxHeartbeats 4000000
/-- a ring of contracts of which something is set off -/
def pathOk (b : BookD) (f : Nat → Int) (p : List Int) : Prop := isRing b ⟨p, 1⟩ ∧ ∀ k, k < p.length → 0 < f (p.getD k 0).toNat
/-- a path -/
structure PathI (b : BookD) (f : Nat → Int) (first : Nat) (P : List Int) (a : Int) : Prop where
  ok : ∀ k, k < P.length → okAt b ⟨P, 1⟩ k
  pos : ∀ k, k < P.length → 0 < f (P.getD k 0).toNat
  next : ∀ k, k + 1 < P.length → (cAt b ⟨P, 1⟩ k).to = (cAt b ⟨P, 1⟩ (k + 1)).frm
  ne : ∀ k m, k < P.length → m < k → (cAt b ⟨P, 1⟩ m).frm ≠ (cAt b ⟨P, 1⟩ k).frm
  at0 : P = [] → a = (b.cons.getD first default).frm
  at1 : ∀ k, k + 1 = P.length → a = (cAt b ⟨P, 1⟩ k).to
theorem path_len {b : BookD} (hv : VBook b) {f : Nat → Int} {first : Nat} {P : List Int} {a : Int} (h : PathI b f first P a) : (P.length : Int) ≤ b.houses := by
  have hh := hv.houses
  have := pigeon b.houses.toNat P.length (fun k => (cAt b ⟨P, 1⟩ k).frm.toNat) (fun k hk => by
    have := hv.frm _ (okAt_lt (h.ok k hk)).1
    show (cAt b ⟨P, 1⟩ k).frm.toNat < _
    unfold cAt
    omega) (fun i j hi hj => by
    have h1 := hv.frm _ (okAt_lt (h.ok i hi)).1
    have h2 := hv.frm _ (okAt_lt (h.ok j (by omega))).1
    have := h.ne i j hi hj
    show (cAt b ⟨P, 1⟩ j).frm.toNat ≠ (cAt b ⟨P, 1⟩ i).frm.toNat
    unfold cAt at this ⊢
    omega)
  omega
theorem drop_at {l : List Int} {k j : Nat} : (l.drop k).getD j 0 = l.getD (k + j) 0 := by simp [List.getD_eq_getElem?_getD]
theorem path_ring {b : BookD} (hv : VBook b) {f : Nat → Int} {first : Nat} {P : List Int} {a : Int} (h : PathI b f first P a) {k : Nat} (hk : k < P.length) (he : (cAt b ⟨P, 1⟩ k).frm = a) : pathOk b f (P.drop k) := by
  have hc : ∀ j, cAt b ⟨P.drop k, 1⟩ j = cAt b ⟨P, 1⟩ (k + j) := fun j => by
    show b.cons.getD ((P.drop k).getD j 0).toNat default = b.cons.getD (P.getD (k + j) 0).toNat default
    rw [drop_at]
  have hl : (P.drop k).length = P.length - k := List.length_drop
  have hlast := h.at1 (P.length - 1) (by omega)
  have h2 : 2 ≤ P.length - k := by
    refine Classical.byContradiction fun hno => ?_
    obtain rfl : k = P.length - 1 := by omega
    have hok := h.ok (P.length - 1) hk
    exact hv.ne _ (okAt_lt hok).1 (by unfold cAt at he hlast; rw [he, hlast])
  refine ⟨⟨by show 2 ≤ (P.drop k).length; omega, ⟨Int.le_refl _, by show (1 : Int) ≤ 100; omega⟩, fun j hj => ?_, fun j hj => ?_, fun j m hj hm => ?_⟩, fun j hj => ?_⟩
  · have hj : j < (P.drop k).length := hj
    have := h.ok (k + j) (by omega)
    unfold okAt at this ⊢
    show 0 ≤ (P.drop k).getD j 0 ∧ (P.drop k).getD j 0 ≤ _
    rw [drop_at]; exact this
  · have hj : j < (P.drop k).length := hj
    show (cAt b ⟨P.drop k, 1⟩ j).to = (cAt b ⟨P.drop k, 1⟩ ((j + 1) % (P.drop k).length)).frm
    rw [hc, hc]
    by_cases c : j + 1 < (P.drop k).length
    · rw [Nat.mod_eq_of_lt c]
      exact h.next (k + j) (by omega)
    · have e1 : j + 1 = (P.drop k).length := by omega
      rw [e1, Nat.mod_self, Nat.add_zero, he, hlast]
      congr 2
      omega
  · have hj : j < (P.drop k).length := hj
    rw [hc, hc]
    exact h.ne (k + j) (k + m) (by omega) (by omega)
  · rw [drop_at]
    exact h.pos (k + j) (by omega)
theorem snoc_at {l : List Int} {x : Int} {j : Nat} (h : j < l.length) : (l ++ [x]).getD j 0 = l.getD j 0 := by simp [List.getD_eq_getElem?_getD, List.getElem?_append, h]
theorem snoc_last {l : List Int} {x : Int} : (l ++ [x]).getD l.length 0 = x := by simp [List.getD_eq_getElem?_getD]
theorem path_step {b : BookD} (hv : VBook b) {f : Nat → Int} {first : Nat} {P : List Int} {a : Int} (h : PathI b f first P a) {i : Nat} (hi : i < b.cons.length) (hf : 0 < f i) (he : (b.cons.getD i default).frm = a) (hno : ∀ k, k < P.length → (cAt b ⟨P, 1⟩ k).frm ≠ a) :
    PathI b f first (P ++ [(i : Int)]) (b.cons.getD i default).to := by
  have hl : (P ++ [(i : Int)]).length = P.length + 1 := by simp
  have hc : ∀ j, j < P.length → cAt b ⟨P ++ [(i : Int)], 1⟩ j = cAt b ⟨P, 1⟩ j := fun j hj => by
    show b.cons.getD ((P ++ [(i : Int)]).getD j 0).toNat default = b.cons.getD (P.getD j 0).toNat default
    rw [snoc_at hj]
  have hc2 : cAt b ⟨P ++ [(i : Int)], 1⟩ P.length = b.cons.getD i default := by
    show b.cons.getD ((P ++ [(i : Int)]).getD P.length 0).toNat default = _
    rw [snoc_last, Int.toNat_natCast]
  refine ⟨fun k hk => ?_, fun k hk => ?_, fun k hk => ?_, fun k m hk hm => ?_, fun e => ?_, fun k hk => ?_⟩
  · rw [hl] at hk
    unfold okAt
    show 0 ≤ (P ++ [(i : Int)]).getD k 0 ∧ (P ++ [(i : Int)]).getD k 0 ≤ _
    by_cases c : k < P.length
    · rw [snoc_at c]; exact h.ok k c
    · obtain rfl : k = P.length := by omega
      rw [snoc_last]; omega
  · rw [hl] at hk
    by_cases c : k < P.length
    · rw [snoc_at c]; exact h.pos k c
    · obtain rfl : k = P.length := by omega
      rw [snoc_last, Int.toNat_natCast]; exact hf
  · rw [hl] at hk
    by_cases c : k + 1 < P.length
    · rw [hc _ (by omega), hc _ c]; exact h.next k c
    · have e1 : P.length = k + 1 := by omega
      rw [← e1, hc2, hc _ (by omega), he]
      exact (h.at1 k (by omega)).symm
  · rw [hl] at hk
    by_cases c : k < P.length
    · rw [hc _ (by omega), hc _ c]; exact h.ne k m c hm
    · obtain rfl : k = P.length := by omega
      rw [hc2, hc _ hm, he]
      exact hno m hm
  · simp at e
  · rw [hl] at hk
    obtain rfl : k = P.length := by omega
    rw [hc2]
attribute [local irreducible] AWP AWL AOp PV LV AWT AWE
end Go.Proofs.Ytilhflfbbfeakaa
end
