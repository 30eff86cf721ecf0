/- The document's example as plain values. -/
import Derived.Test.YtallicfckbdeaaaXc
import Derived.Test.YtallicfckbdeaaaGHf
import Derived.Test.YtallicfckbdeaaaGHa
import Derived.Test.YtallicfckbdeaaaGHc
namespace Go.Proofs.Ytallicfckbdeaaa
open Go Go.RowKit Go.Tl
set_option linter.unusedVariables false
set_option linter.unusedSimpArgs false
def fourD (lo hi : Int) : MktD := ⟨100, [⟨lo, hi, false, 0⟩, ⟨10, 30, true, 200⟩, ⟨0, 15, true, 150⟩, ⟨0, 5, false, 0⟩], [⟨3, 0, 25⟩, ⟨1, 0, 10⟩]⟩
theorem four_f1 : faultN (fourD 60 80) = 0 := by decide
theorem four_f2 : faultN (fourD 40 41) = 0 := by decide
theorem four_f3 : faultN (fourD 66 80) = 0 := by decide
theorem four_f4 : faultN (fourD 101 101) = 0 := by decide
theorem len4 {t : List Int} (h : t.length = 4) : ∃ a b c d, t = [a, b, c, d] := by
  match t, h with
  | [a, b, c, d], _ => exact ⟨a, b, c, d, rfl⟩
theorem short4 (ex : Int) (h0 h1 h2 h3 : HouD) (cs : List ConD) (a b c d : Int) : shortT ⟨ex, [h0, h1, h2, h3], cs⟩ [a, b, c, d] = shortF h0 (owN cs cs.length 0 + a) + (shortF h1 (owN cs cs.length 1 + b) + (shortF h2 (owN cs cs.length 2 + c) + (shortF h3 (owN cs cs.length 3 + d) + 0))) := rfl
theorem ow4 : owN [⟨3, 0, 25⟩, ⟨1, 0, 10⟩] 2 0 = 35 ∧ owN [⟨3, 0, 25⟩, ⟨1, 0, 10⟩] 2 1 = -10 ∧ owN [⟨3, 0, 25⟩, ⟨1, 0, 10⟩] 2 2 = 0 ∧ owN [⟨3, 0, 25⟩, ⟨1, 0, 10⟩] 2 3 = -25 := by decide
theorem fit4 {ex : Int} {h0 h1 h2 h3 : HouD} {cs : List ConD} {a b c d : Int} : truthB ⟨ex, [h0, h1, h2, h3], cs⟩ [a, b, c, d] = true ↔ h0.lo ≤ a ∧ a ≤ h0.hi ∧ h1.lo ≤ b ∧ b ≤ h1.hi ∧ h2.lo ≤ c ∧ c ≤ h2.hi ∧ h3.lo ≤ d ∧ d ≤ h3.hi ∧ a + b + c + d = ex := by
  rw [truth_fit]
  simp only [fitP]
  constructor
  · rintro ⟨h1, h2, h3, h4, h5, h6, h7, h8, h9⟩
    exact ⟨h1, h2, h3, h4, h5, h6, h7, h8, by omega⟩
  · rintro ⟨h1, h2, h3, h4, h5, h6, h7, h8, h9⟩
    exact ⟨h1, h2, h3, h4, h5, h6, h7, h8, by omega⟩
/-- the document's market, in which some houses sell -/
def fourS (lo hi : Int) (s1 s2 : Bool) : MktD := ⟨100, [⟨lo, hi, false, 0⟩, ⟨10, 30, s1, 200⟩, ⟨0, 15, s2, 150⟩, ⟨0, 5, false, 0⟩], [⟨3, 0, 25⟩, ⟨1, 0, 10⟩]⟩
theorem four_S (lo hi : Int) : fourD lo hi = fourS lo hi true true := rfl
theorem fourS_truth {lo hi : Int} {s1 s2 : Bool} {t : List Int} (h : truthB (fourS lo hi s1 s2) t = true) : ∃ a b c d, t = [a, b, c, d] ∧ lo ≤ a ∧ a ≤ hi ∧ 10 ≤ b ∧ b ≤ 30 ∧ 0 ≤ c ∧ c ≤ 15 ∧ 0 ≤ d ∧ d ≤ 5 ∧ a + b + c + d = 100 := by
  obtain ⟨a, b, c, d, rfl⟩ := len4 (show t.length = 4 from (truth_iff.1 h).1)
  exact ⟨a, b, c, d, rfl, fit4.1 h⟩
theorem fourS_is {lo hi : Int} {s1 s2 : Bool} {a b c d : Int} (h : lo ≤ a ∧ a ≤ hi ∧ 10 ≤ b ∧ b ≤ 30 ∧ 0 ≤ c ∧ c ≤ 15 ∧ 0 ≤ d ∧ d ≤ 5 ∧ a + b + c + d = 100) : truthB (fourS lo hi s1 s2) [a, b, c, d] = true := fit4.2 h
theorem fourS_short {lo hi : Int} {s1 s2 : Bool} {a b c d : Int} (ha : 0 ≤ a) (hb : 10 ≤ b) (hc : 0 ≤ c) (hd : 0 ≤ d ∧ d ≤ 5) : shortT (fourS lo hi s1 s2) [a, b, c, d] = 25 - d - (if s1 = true then b - 10 else 0) - (if s2 = true then c else 0) := by
  unfold fourS
  rw [short4]
  show shortF _ (owN [⟨3, 0, 25⟩, ⟨1, 0, 10⟩] 2 0 + a) + (shortF _ (owN [⟨3, 0, 25⟩, ⟨1, 0, 10⟩] 2 1 + b) + (shortF _ (owN [⟨3, 0, 25⟩, ⟨1, 0, 10⟩] 2 2 + c) + (shortF _ (owN [⟨3, 0, 25⟩, ⟨1, 0, 10⟩] 2 3 + d) + 0))) = _
  obtain ⟨e0, e1, e2, e3⟩ := ow4
  rw [e0, e1, e2, e3]
  cases s1 <;> cases s2 <;> simp [shortF, needN, spareN] <;> omega
theorem v4 : VMkt (fourS 60 80 true true) := vmkt four_f1
theorem f4_a : faultN (fourS 60 80 false true) = 0 := by decide
theorem f4_b : faultN (fourS 60 80 true false) = 0 := by decide
theorem bnd4 : lowN (fourD 60 80) = -5 ∧ highN (fourD 60 80) = 15 := by
  have hv := v4
  have t1 : truthB (fourS 60 80 true true) [60, 30, 10, 0] = true := fourS_is (by omega)
  have t2 : truthB (fourS 60 80 true true) [80, 10, 5, 5] = true := fourS_is (by omega)
  have hne := low_ne hv t1
  have h1 := low_le hv t1
  have h2 := le_high hv t2
  rw [fourS_short (by omega) (by omega) (by omega) (by omega)] at h1 h2
  obtain ⟨ta, a1, a2⟩ := low_at hv hne
  obtain ⟨tb, b1, b2⟩ := high_at hv hne
  obtain ⟨a, b, c, d, rfl, ha⟩ := fourS_truth a1
  obtain ⟨x, y, z, w, rfl, hx⟩ := fourS_truth b1
  rw [fourS_short (by omega) (by omega) (by omega) (by omega)] at a2 b2
  simp only [if_true] at h1 h2 a2 b2
  show lowN (fourS 60 80 true true) = -5 ∧ highN (fourS 60 80 true true) = 15
  generalize lowN (fourS 60 80 true true) = L at *
  generalize highN (fourS 60 80 true true) = H at *
  omega
theorem asked4 : askedR (fourD 60 80) = ((-5, 15), 0) := by
  have h := bnd4
  have hne : lowN (fourD 60 80) ≠ never := by rw [h.1]; decide
  unfold askedR
  rw [if_neg (fun c => c four_f1), if_pos (by unfold hasB; rw [decide_eq_false hne]; rfl), bnd_eq hne, h.1, h.2]
theorem keep4_1 : keepM (fourD 60 80) [((1 : Nat) : Int)] = fourS 60 80 false true := rfl
theorem keep4_2 : keepM (fourD 60 80) [((2 : Nat) : Int)] = fourS 60 80 true false := rfl
theorem bnd4_1 : 0 < (bndN (fourS 60 80 false true)).1 ∧ 0 < (bndN (fourS 60 80 false true)).2 := by
  have hv := vmkt f4_a
  have t1 : truthB (fourS 60 80 false true) [60, 30, 10, 0] = true := fourS_is (by omega)
  have hne := low_ne hv t1
  have hh := low_high hv hne
  obtain ⟨ta, a1, a2⟩ := low_at hv hne
  obtain ⟨a, b, c, d, rfl, ha⟩ := fourS_truth a1
  rw [fourS_short (by omega) (by omega) (by omega) (by omega)] at a2
  simp only [if_true, Bool.false_eq_true, if_false] at a2
  rw [bnd_eq hne]
  dsimp only
  generalize lowN (fourS 60 80 false true) = L at *
  generalize highN (fourS 60 80 false true) = H at *
  omega
theorem bnd4_2 : ¬ 0 < (bndN (fourS 60 80 true false)).1 ∧ 0 < (bndN (fourS 60 80 true false)).2 := by
  have hv := vmkt f4_b
  have t1 : truthB (fourS 60 80 true false) [65, 30, 0, 5] = true := fourS_is (by omega)
  have t2 : truthB (fourS 60 80 true false) [80, 10, 5, 5] = true := fourS_is (by omega)
  have hne := low_ne hv t1
  have h1 := low_le hv t1
  have h2 := le_high hv t2
  rw [fourS_short (by omega) (by omega) (by omega) (by omega)] at h1 h2
  simp only [if_true, Bool.false_eq_true, if_false] at h1 h2
  rw [bnd_eq hne]
  dsimp only
  generalize lowN (fourS 60 80 true false) = L at *
  generalize highN (fourS 60 80 true false) = H at *
  omega
theorem ess4 : essR (fourD 60 80) = ([1], [1, 2], 0) := by
  have b1 := bnd4_1
  have b2 := bnd4_2
  rw [← keep4_1] at b1
  rw [← keep4_2] at b2
  unfold essR
  rw [if_neg (fun c => c (by rw [asked4]))]
  have n0 : ∀ f, essL (fourD 60 80) f 1 = [] := fun f => ess_no (k := 0) (fun h => by cases h.1)
  have y1 : ∀ f, 0 < f (bndN (keepM (fourD 60 80) [((1 : Nat) : Int)])) → essL (fourD 60 80) f 2 = [1] := fun f h => by
    rw [ess_yes (k := 1) ⟨rfl, h⟩, n0]
    rfl
  have e1 : essL (fourD 60 80) Prod.fst 3 = [1] := by rw [ess_no (k := 2) (fun h => b2.1 h.2), y1 _ b1.1]
  have e2 : essL (fourD 60 80) Prod.snd 3 = [1, 2] := by rw [ess_yes (k := 2) ⟨rfl, b2.2⟩, y1 _ b1.2]; rfl
  have e3 : ∀ f, essL (fourD 60 80) f 4 = essL (fourD 60 80) f 3 := fun f => ess_no (k := 3) (fun h => by cases h.1)
  show (essL (fourD 60 80) Prod.fst 4, essL (fourD 60 80) Prod.snd 4, (0 : Int)) = _
  rw [e3, e3, e1, e2]
theorem corn4 : cornR (fourD 60 80) = ([1], 0) := by
  unfold cornR
  rw [if_neg (fun c => c (by rw [asked4]))]
  have h0 : corB (fourD 60 80) [] = false := by
    unfold corB
    have e : keepM (fourD 60 80) (natsI []) = fourD 60 80 := rfl
    have hne : lowN (fourD 60 80) ≠ never := by rw [bnd4.1]; decide
    rw [e, bnd_eq hne, bnd4.1]
    rfl
  have h1 : corB (fourD 60 80) [1] = true := by
    unfold corB
    exact decide_eq_true bnd4_1.1
  have e : ∃ r, sizesC (sellB (fourD 60 80)) (fourD 60 80).hou.length 0 = [] :: [1] :: r := ⟨_, rfl⟩
  obtain ⟨r, e⟩ := e
  rw [e]
  have : fndL (corB (fourD 60 80)) [] ([] :: [1] :: r) = some [1] := by
    unfold fndL
    simp [List.find?, h0, h1]
  rw [this]
  rfl
theorem cheap4 (hi lo : Int) (hv : VMkt (fourD lo hi)) : cheapL (fourD lo hi) = [0, 3, 2, 1] := by
  symm
  refine cheap_eq hv ?_ ?_
  · show List.Pairwise (KB [0, 200, 150, 0]) [0, 3, 2, 1]
    simp [KB]
  · intro x
    show x ∈ [0, 3, 2, 1] ↔ x < 4
    simp
    omega
theorem setl4_1 : setlR (fourD 60 80) [60, 30, 10, 0] = ([⟨2, 3, 10⟩, ⟨1, 3, 15⟩], 4500, 0) := by
  unfold setlR
  rw [cheap4 80 60 (vmkt four_f1)]
  decide +kernel
theorem setl4_2 : setlR (fourD 60 80) [65, 20, 15, 0] = ([⟨2, 3, 15⟩, ⟨1, 3, 10⟩], 4250, 0) := by
  unfold setlR
  rw [cheap4 80 60 (vmkt four_f1)]
  decide +kernel
theorem need4 : needsR (fourD 60 80) [70, 20, 8, 2] = ([0, 0, 0, 23], [0, 10, 8, 0], 0) := by decide
theorem lev4 : levR (fourD 40 41) = ([0], 0) := by decide
theorem show4 {t : List Int} (h1 : truthB (fourD 60 80) t = true) (h2 : shortT (fourD 60 80) t = 15) : ∃ b c d, t = [80, b, c, d] := by
  obtain ⟨a, b, c, d, rfl, h⟩ := fourS_truth (s1 := true) (s2 := true) h1
  have h3 : shortT (fourS 60 80 true true) [a, b, c, d] = 15 := h2
  rw [fourS_short (by omega) (by omega) (by omega) (by omega)] at h3
  simp only [if_true] at h3
  obtain rfl : a = 80 := by omega
  exact ⟨b, c, d, rfl⟩
end Go.Proofs.Ytallicfckbdeaaa
