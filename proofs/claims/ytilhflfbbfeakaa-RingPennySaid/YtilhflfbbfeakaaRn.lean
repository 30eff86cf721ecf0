/- RingPenny, plain: sums over houses, other prices. -/
import Derived.Test.YtilhflfbbfeakaaRm
namespace Go.Proofs.Ytilhflfbbfeakaa
open Go Go.RowKit Go.Tl
set_option linter.unusedVariables false
set_option linter.unusedSimpArgs false
def sumR (n : Nat) (F : Nat → Int) : Int := sumI ((List.range n).map F)
theorem sumR_succ (n : Nat) (F : Nat → Int) : sumR (n + 1) F = sumR n F + F n := by simp [sumR, List.range_succ, sumI_append, sumI]
theorem sumR_congr {n : Nat} {F G : Nat → Int} (h : ∀ i, i < n → F i = G i) : sumR n F = sumR n G := by
  unfold sumR; rw [List.map_congr_left fun i hi => h i (List.mem_range.1 hi)]
theorem sumR_zero (n : Nat) : sumR n (fun _ => 0) = 0 := by
  induction n with
  | zero => rfl
  | succ n ih => rw [sumR_succ, ih]; rfl
theorem sumR_add {n : Nat} {F G : Nat → Int} : sumR n (fun i => F i + G i) = sumR n F + sumR n G := by
  induction n with
  | zero => rfl
  | succ n ih => rw [sumR_succ, sumR_succ, sumR_succ, ih]; omega
theorem sumR_sub {n : Nat} {F G : Nat → Int} : sumR n (fun i => F i - G i) = sumR n F - sumR n G := by
  induction n with
  | zero => rfl
  | succ n ih => rw [sumR_succ, sumR_succ, sumR_succ, ih]; omega
theorem sumR_le {n : Nat} {F G : Nat → Int} (h : ∀ i, i < n → F i ≤ G i) : sumR n F ≤ sumR n G := by
  induction n with
  | zero => exact Int.le_refl _
  | succ n ih => rw [sumR_succ, sumR_succ]; have := ih (fun i hi => h i (by omega)); have := h n (by omega); omega
theorem sumR_one {n : Nat} {j v : Int} (h0 : 0 ≤ j) (h1 : j < n) : sumR n (fun i => if j = (i : Int) then v else 0) = v := by
  induction n with
  | zero => omega
  | succ n ih =>
    rw [sumR_succ]
    by_cases e : j = (n : Int)
    · rw [if_pos e, sumR_congr (G := fun _ => 0) (fun i hi => if_neg (by omega)), sumR_zero]; omega
    · rw [if_neg e, ih (by omega)]; omega
theorem acc_sum {b : BookD} (hv : VBook b) (f : Nat → Int) : ∀ k, k ≤ b.cons.length → sumR b.houses.toNat (fun h => accN b.cons f k h) = 0
  | 0, _ => sumR_zero _
  | k + 1, hk => by
    have ih := acc_sum hv f k (by omega)
    have h1 := hv.frm k (by omega)
    have h2 := hv.to k (by omega)
    show sumR _ (fun h => accN b.cons f k h + _ - _) = 0
    rw [sumR_sub, sumR_add, ih, sumR_one h2.1 (by omega), sumR_one h1.1 (by omega)]
    omega
theorem net_sum {b : BookD} (hv : VBook b) (f : Nat → Int) : sumI (netL b f) = 0 := acc_sum hv f _ (Nat.le_refl _)
theorem rf_sum {b : BookD} (hv : VBook b) (k0 : Nat) (p : Int) : ∀ k, k ≤ b.cons.length → sumR b.houses.toNat (fun h => rfN b.cons k0 p k h) = -(accN b.cons (fun i => -(payF b p i)) k k0)
  | 0, _ => sumR_zero _
  | k + 1, hk => by
    have ih := rf_sum hv k0 p k (by omega)
    have h1 := hv.frm k (by omega)
    have h2 := hv.to k (by omega)
    have e1 : sumR b.houses.toNat (fun h => if (b.cons.getD k default).frm = (k0 : Int) ∧ (b.cons.getD k default).to = (h : Int) then payF b p k else 0) = if (b.cons.getD k default).frm = (k0 : Int) then payF b p k else 0 := by
      by_cases q : (b.cons.getD k default).frm = (k0 : Int)
      · rw [if_pos q, sumR_congr (G := fun h => if (b.cons.getD k default).to = (h : Int) then payF b p k else 0) (fun i _ => by
          by_cases r : (b.cons.getD k default).to = (i : Int)
          · rw [if_pos ⟨q, r⟩, if_pos r]
          · rw [if_neg (fun x => r x.2), if_neg r])]
        exact sumR_one h2.1 (by omega)
      · rw [if_neg q, sumR_congr (G := fun _ => 0) (fun i _ => if_neg (fun x => q x.1)), sumR_zero]
    have e2 : sumR b.houses.toNat (fun h => if (b.cons.getD k default).to = (k0 : Int) ∧ (b.cons.getD k default).frm = (h : Int) then payF b p k else 0) = if (b.cons.getD k default).to = (k0 : Int) then payF b p k else 0 := by
      by_cases q : (b.cons.getD k default).to = (k0 : Int)
      · rw [if_pos q, sumR_congr (G := fun h => if (b.cons.getD k default).frm = (h : Int) then payF b p k else 0) (fun i _ => by
          by_cases r : (b.cons.getD k default).frm = (i : Int)
          · rw [if_pos ⟨q, r⟩, if_pos r]
          · rw [if_neg (fun x => r x.2), if_neg r])]
        exact sumR_one h1.1 (by omega)
      · rw [if_neg q, sumR_congr (G := fun _ => 0) (fun i _ => if_neg (fun x => q x.1)), sumR_zero]
    have hs : (fun h : Nat => rfN b.cons k0 p (k + 1) h) = fun h : Nat => rfN b.cons k0 p k h - (if (b.cons.getD k default).frm = (k0 : Int) ∧ (b.cons.getD k default).to = (h : Int) then payF b p k else 0) + (if (b.cons.getD k default).to = (k0 : Int) ∧ (b.cons.getD k default).frm = (h : Int) then payF b p k else 0) := rfl
    have ha : accN b.cons (fun i => -(payF b p i)) (k + 1) k0 = accN b.cons (fun i => -(payF b p i)) k k0 - (if (b.cons.getD k default).to = (k0 : Int) then payF b p k else 0) + (if (b.cons.getD k default).frm = (k0 : Int) then payF b p k else 0) := by
      simp only [accN]
      split <;> split <;> simp <;> omega
    rw [hs, sumR_add, sumR_sub, ih, e1, e2, ha]
    omega
theorem fail_list {b : BookD} (hv : VBook b) (house p : Int) : failL b house p = (List.range b.houses.toNat).map fun (h : Nat) => max 0 (rfN b.cons house p b.cons.length h) :=
  List.map_congr_left fun h _ => fail_eq hv house p h
theorem fail_sum {b : BookD} (hv : VBook b) (k0 : Nat) (p : Int) : -(accN b.cons (fun i => -(payF b p i)) b.cons.length k0) ≤ sumI (failL b k0 p) := by
  rw [fail_list hv, ← rf_sum hv k0 p _ (Nat.le_refl _)]
  exact sumR_le fun i _ => by omega
theorem fail_at {b : BookD} {house p : Int} {h : Nat} (hh : h < b.houses.toNat) : (failL b house p).getD h 0 = if (h : Int) = house then 0 else max (failN b house p h) 0 := by
  simp [failL, List.getD_eq_getElem?_getD, hh]
theorem net_at {b : BookD} {f : Nat → Int} {h : Nat} (hh : h < b.houses.toNat) : (netL b f).getD h 0 = accN b.cons f b.cons.length h := by
  simp [netL, List.getD_eq_getElem?_getD, hh]
/-- other prices -/
def xC (by' : Int) (c : ConD) : ConD := ⟨c.frm, c.to, c.num, c.price + by'⟩
def yC (k p : Int) (c : ConD) : ConD := if c.frm = k ∨ c.to = k then ⟨c.frm, c.to, c.num, p⟩ else c
def mapB (b : BookD) (g : ConD → ConD) : BookD := ⟨b.houses, b.cons.map g⟩
theorem map_at {b : BookD} {g : ConD → ConD} {i : Nat} (h : i < b.cons.length) : (mapB b g).cons.getD i default = g (b.cons.getD i default) := by
  simp [mapB, List.getD_eq_getElem?_getD, h]
theorem acc_map {b : BookD} {g : ConD → ConD} (hg : ∀ c, (g c).frm = c.frm ∧ (g c).to = c.to) (f : Nat → Int) (h : Nat) : ∀ k, k ≤ b.cons.length → accN (mapB b g).cons f k h = accN b.cons f k h
  | 0, _ => rfl
  | k + 1, hk => by
    simp only [accN]
    rw [acc_map hg f h k (by omega), map_at (by omega), (hg _).1, (hg _).2]
theorem shift_eq {b : BookD} (p by' : Int) : netL (mapB b (xC by')) (fun i => -(payF (mapB b (xC by')) (p + by') i)) = netL b (fun i => -(payF b p i)) := by
  refine List.map_congr_left fun h _ => ?_
  have hl : (mapB b (xC by')).cons.length = b.cons.length := by simp [mapB]
  rw [hl, acc_map (b := b) (g := xC by') (fun c => ⟨rfl, rfl⟩) _ h _ (Nat.le_refl _)]
  refine accN_congr _ _ fun i hi => ?_
  unfold payF
  rw [map_at hi]
  simp only [xC]
  congr 2
  omega
theorem yC_ends (k p : Int) (c : ConD) : (yC k p c).frm = c.frm ∧ (yC k p c).to = c.to := by unfold yC; split <;> exact ⟨rfl, rfl⟩
theorem yB_valid {b : BookD} (hv : VBook b) {k p : Int} (hp : 1 ≤ p ∧ p ≤ 1000) : VBook (mapB b (yC k p)) := by
  have hl : (mapB b (yC k p)).cons.length = b.cons.length := by simp [mapB]
  refine ⟨hv.houses, by rw [hl]; exact hv.len, fun i hi => ?_, fun i hi => ?_, fun i hi => ?_, fun i hi => ?_, fun i hi => ?_⟩ <;> rw [hl] at hi <;> rw [map_at hi]
  · rw [(yC_ends _ _ _).1]; exact hv.frm i hi
  · rw [(yC_ends _ _ _).2]; exact hv.to i hi
  · rw [(yC_ends _ _ _).1, (yC_ends _ _ _).2]; exact hv.ne i hi
  · have e : (yC k p (b.cons.getD i default)).num = (b.cons.getD i default).num := by unfold yC; split <;> rfl
    rw [e]; exact hv.num i hi
  · unfold yC; split
    · exact hp
    · exact hv.price i hi
theorem fault_of {b : BookD} (hv : VBook b) : faultN b = 0 := by
  have hh := hv.houses
  have hl := hv.len
  have hall : b.cons.all (conB b.houses) = true := (all_getD (d := default)).2 fun k hk => by
    have h1 := hv.frm k hk
    have h2 := hv.to k hk
    have h3 := hv.ne k hk
    have h4 := hv.num k hk
    have h5 := hv.price k hk
    simp only [conB, Bool.and_eq_true, inB_iff, decide_eq_true_eq]
    exact ⟨by omega, by omega, h3, h4, h5⟩
  unfold faultN
  rw [if_neg (by omega), if_pos ⟨hh.1, hall⟩]
theorem none_lost {b : BookD} (hv : VBook b) (k p : Int) (hp : 1 ≤ p ∧ p ≤ 1000) : failL (mapB b (yC k p)) k p = List.replicate b.houses.toNat 0 := by
  have hl : (mapB b (yC k p)).cons.length = b.cons.length := by simp [mapB]
  have hr : ∀ (j h : Nat), j ≤ b.cons.length → rfN (mapB b (yC k p)).cons k p j h = 0 := fun j h => by
    induction j with
    | zero => intro _; rfl
    | succ j ih =>
      intro hj
      simp only [rfN]
      rw [ih (by omega), map_at (by omega), (yC_ends _ _ _).1, (yC_ends _ _ _).2]
      have hz : (b.cons.getD j default).frm = k ∨ (b.cons.getD j default).to = k → (yC k p (b.cons.getD j default)).num * ((yC k p (b.cons.getD j default)).price - p) = 0 := fun q => by
        unfold yC; rw [if_pos q]; simp
      by_cases q1 : (b.cons.getD j default).frm = k ∧ (b.cons.getD j default).to = (h : Int)
      · rw [if_pos q1, hz (.inl q1.1)]; split <;> simp
      · rw [if_neg q1]
        by_cases q2 : (b.cons.getD j default).to = k ∧ (b.cons.getD j default).frm = (h : Int)
        · rw [if_pos q2, hz (.inr q2.1)]; rfl
        · rw [if_neg q2]; rfl
  rw [fail_list (yB_valid hv hp)]
  refine List.ext_getElem (by simp [mapB]) fun i h1 h2 => ?_
  simp only [List.getElem_map, List.getElem_range, List.getElem_replicate]
  rw [hl, hr _ _ (Nat.le_refl _)]
  rfl
theorem rep_sum (n : Nat) : sumI (List.replicate n 0) = 0 := by
  induction n with
  | zero => rfl
  | succ n ih => simp [List.replicate_succ, sumI, ih]
end Go.Proofs.Ytilhflfbbfeakaa
