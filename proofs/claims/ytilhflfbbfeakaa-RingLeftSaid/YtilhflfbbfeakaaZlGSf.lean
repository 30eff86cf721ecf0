/- Joined texts: Sf, Gp. -/
import Derived.Test.YtilhflfbbfeakaaZlGBf
import Derived.Test.YtilhflfbbfeakaaZlGRi
import Derived.Test.YtilhflfbbfeakaaTz
import Derived.Test.YtilhflfbbfeakaaZlGSd
section
namespace Go.Tl
open Go Go.RowKit
end Go.Tl
namespace Go.Proofs.Ytilhflfbbfeakaa
open Go Go.RowKit Go.Tl
set_option linter.unusedVariables false
set_option linter.unusedSimpArgs false
set_option maxRecDepth 100000
set_option maxHeartbeats 4000000
def digL (F : Nat → Int) (H : Nat) : List Int := (List.range H).map F
theorem digL_at {F : Nat → Int} {H v : Nat} (hv : v < H) : (digL F H).getD v 0 = F v := by simp [digL, List.getD_eq_getElem?_getD, hv]
theorem prov_eq {b : BookD} (hv : VBook b) (F : Nat → Int) : ∀ k, k ≤ b.cons.length → provN b (digL F b.houses.toNat) k = provF b F k
  | 0, _ => rfl
  | k + 1, hk => by
    have hf := hv.frm k (by omega)
    have ht := hv.to k (by omega)
    simp only [provN, provF, upN]
    rw [prov_eq hv F k (by omega), digL_at (by omega), digL_at (by omega)]
attribute [local irreducible] AWP AWL AOp PV LV AWT AWE
section
variable {b : BookD} {g1 ga n h : Nat} {F : Nat → Int} {u3 : AV}
end
end Go.Proofs.Ytilhflfbbfeakaa
end
section
namespace Go.Proofs.Ytilhflfbbfeakaa
open Go Go.RowKit Go.Tl
set_option linter.unusedVariables false
set_option linter.unusedSimpArgs false
theorem acc_far {b : BookD} (hv : VBook b) (f : Nat → Int) {h : Nat} (hh : b.houses ≤ (h : Int)) : ∀ k, k ≤ b.cons.length → accN b.cons f k h = 0
  | 0, _ => rfl
  | k + 1, hk => by
    have hf := hv.frm k (by omega)
    have ht := hv.to k (by omega)
    simp only [accN]
    rw [acc_far hv f hh k (by omega), if_neg (by omega), if_neg (by omega)]
    rfl
theorem offB_iff {b : BookD} (hv : VBook b) {l : List Int} : offB b l = true ↔ l.length = b.cons.length ∧ OffF b (numF b) (fun i => l.getD i 0) := by
  have hh := hv.houses
  unfold offB
  simp only [Bool.and_eq_true, listed_iff, all_getD (d := (0 : Int)), decide_eq_true_eq]
  constructor
  · rintro ⟨⟨h1, h2⟩, h3⟩
    refine ⟨h1, fun i hi => h2 i (by omega), fun h => ?_⟩
    by_cases c : (h : Int) < b.houses
    · have := h3 h (by rw [netL_len]; omega)
      rwa [net_at (by omega)] at this
    · exact acc_far hv _ (by omega) _ (Nat.le_refl _)
  · rintro ⟨h1, h2⟩
    refine ⟨⟨h1, fun k hk => h2.bd k (by omega)⟩, fun k hk => ?_⟩
    rw [netL_len] at hk
    rw [net_at hk]
    exact h2.net k
theorem rng_at {f : Nat → Int} {n i : Nat} (h : i < n) : ((List.range n).map f).getD i 0 = f i := by simp [List.getD_eq_getElem?_getD, h]
theorem off_congr {b : BookD} {cap f g : Nat → Int} (h : ∀ i, i < b.cons.length → f i = g i) (hf : OffF b cap f) : OffF b cap g :=
  ⟨fun i hi => by rw [← h i hi]; exact hf.bd i hi, fun q => by rw [← accN_congr (f := f) _ _ h]; exact hf.net q⟩
structure GrFacts (b : BookD) (off hs : List Int) : Prop where
  len : off.length = b.cons.length
  isoff : offB b off = true
  hlen : hs.length = b.houses.toNat
  high : highB b hs = true
  prov : provN b hs b.cons.length = sumI off
  low : ∀ F : Nat → Int, sumI off ≤ provF b F b.cons.length
  ex : ∃ F : Nat → Int, (∀ v, v < b.houses.toNat → 0 ≤ F v ∧ F v ≤ b.houses - 1) ∧ hs = digL F b.houses.toNat ∧ provF b F b.cons.length = sumI off
  bd : 0 ≤ sumI off ∧ sumI off ≤ 800
theorem gr_facts {b : BookD} (hv : VBook b) {off hs : List Int} (h : isGr b off hs) : GrFacts b off hs := by
  obtain ⟨f, ho, hst, rfl, rfl⟩ := h
  have hh := hv.houses
  have hlen : ((List.range b.cons.length).map f).length = b.cons.length := by simp
  have hoff : OffF b (numF b) (fun i => ((List.range b.cons.length).map f).getD i 0) := off_congr (fun i hi => (rng_at hi).symm) ho
  have hsum : sumI ((List.range b.cons.length).map f) = sumR b.cons.length f := rfl
  have hends : ∀ a ∈ arcsL (fL (numF b) f) b.cons.length, aF b a < b.houses.toNat ∧ aT b a < b.houses.toNat := fun a ha => arc_ends hv ha
  have hd : ∀ v, v < b.houses.toNat → 0 ≤ -((bfR b (arcsL (fL (numF b) f) b.cons.length) b.houses.toNat).1 v) ∧ -((bfR b (arcsL (fL (numF b) f) b.cons.length) b.houses.toNat).1 v) ≤ b.houses - 1 := fun v hv' => by
    have h1 := bf_neg (b := b) (L := arcsL (fL (numF b) f) b.cons.length) b.houses.toNat v
    have h2 := bf_height hends hst hv'
    omega
  have hhl : (hgtL b f).length = b.houses.toNat := by simp [hgtL]
  have hdig : hgtL b f = digL (fun v => -((bfR b (arcsL (fL (numF b) f) b.cons.length) b.houses.toNat).1 v)) b.houses.toNat := rfl
  have hpr := strong_dual hv ho hst
  have hp2 := prov_eq hv (fun v => -((bfR b (arcsL (fL (numF b) f) b.cons.length) b.houses.toNat).1 v)) _ (Nat.le_refl _)
  refine ⟨hlen, (offB_iff hv).2 ⟨hlen, hoff⟩, hhl, high_iff.2 ⟨by rw [hhl]; omega, fun k hk => ?_⟩, by rw [hdig, hp2, hpr, hsum], fun F => ?_, ⟨_, hd, hdig, by rw [hpr, hsum]⟩, ?_⟩
  · rw [hhl] at hk
    rw [hdig, digL_at hk]
    have := hd k hk
    omega
  · rw [hsum]; exact weak_dual hv ho F
  · rw [hsum]; exact off_tot hv ho
theorem grf_elem {b : BookD} (hv : VBook b) {off hs : List Int} (h : GrFacts b off hs) : ∀ x ∈ off, -1000000000 ≤ x ∧ x ≤ 1000000000 := off_list_bd hv (by
  have := h.isoff
  unfold offB at this
  exact (Bool.and_eq_true_iff.1 this).1)
end Go.Proofs.Ytilhflfbbfeakaa
end
