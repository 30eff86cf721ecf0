/- The law CornerNames: plain facts about the document's market. -/
import Derived.Test.YtallicfckbdeaaaXe
import Derived.Test.YtallicfckbdeaaaJb
import Derived.Test.YtallicfckbdeaaaLb
import Derived.Test.YtallicfckbdeaaaXf
namespace Go.Tl
open Go Go.RowKit Go.Proofs.Ytallicfckbdeaaa
theorem AVLe.nil {cp : Bool} {sz : Nat} {f : Nat → List Tr} : AVLe (.v (.slice none 0 0)) (.t (.sl cp sz 0 f)) := fun w S v hv => by cases hv with | v => exact .t (nil_tree w S)
end Go.Tl
namespace Go.Proofs.Ytallicfckbdeaaa
open Go Go.RowKit Go.Tl
set_option linter.unusedVariables false
theorem show4_low {t : List Int} (h1 : truthB (fourD 60 80) t = true) (h2 : shortT (fourD 60 80) t = -5) : ∃ b c d, t = [60, b, c, d] := by
  obtain ⟨a, b, c, d, rfl, h⟩ := fourS_truth (s1 := true) (s2 := true) h1
  have h3 : shortT (fourS 60 80 true true) [a, b, c, d] = -5 := h2
  rw [fourS_short (by omega) (by omega) (by omega) (by omega)] at h3
  simp only [if_true] at h3
  obtain rfl : a = 60 := by omega
  exact ⟨b, c, d, rfl⟩
theorem poss_4 : possB (fourD 60 80) = true := by decide
theorem poss_66 : possB (fourD 66 80) = true := by decide
theorem poss_40 : possB (fourD 40 41) = false := by decide
theorem poss_101 : possB (fourD 101 101) = false := by decide
theorem lev4_none : levR (fourD 60 80) = ([], 0) := by decide
theorem low_66 : 0 < lowN (fourD 66 80) := by
  have hv := vmkt four_f3
  have t1 : truthB (fourS 66 80 true true) [66, 30, 4, 0] = true := fourS_is (by omega)
  have hne := low_ne hv t1
  obtain ⟨ta, a1, a2⟩ := low_at hv hne
  obtain ⟨a, b, c, d, rfl, ha⟩ := fourS_truth (s1 := true) (s2 := true) a1
  have a3 : shortT (fourS 66 80 true true) [a, b, c, d] = lowN (fourD 66 80) := a2
  rw [fourS_short (by omega) (by omega) (by omega) (by omega)] at a3
  simp only [if_true] at a3
  omega
theorem asked_66 : askedR (fourD 66 80) = ((lowN (fourD 66 80), highN (fourD 66 80)), 0) := asked_yes four_f3 poss_66
theorem asked_40 : askedR (fourD 40 41) = ((0, 0), 9) := asked_no four_f2 poss_40
theorem ne_66 : lowN (fourD 66 80) ≠ never := poss_ne (m := fourD 66 80) (vmkt four_f3) poss_66
theorem corn_66 : cornR (fourD 66 80) = ([], 0) := by
  unfold cornR
  rw [if_neg (fun c => c (by rw [asked_66]))]
  have h0 : corB (fourD 66 80) [] = true := by
    unfold corB
    have e : keepM (fourD 66 80) (natsI []) = fourD 66 80 := rfl
    rw [e]
    have q := bnd_eq ne_66
    have hl := low_66
    revert q hl
    generalize bndN (fourD 66 80) = B
    generalize lowN (fourD 66 80) = L
    generalize highN (fourD 66 80) = H
    intro q hl
    rw [q]
    exact decide_eq_true hl
  have e : ∃ r, sizesC (sellB (fourD 66 80)) (fourD 66 80).hou.length 0 = [] :: r := ⟨_, rfl⟩
  obtain ⟨r, e⟩ := e
  rw [e]
  have : fndL (corB (fourD 66 80)) [] ([] :: r) = some [] := by
    unfold fndL
    simp [List.find?, h0]
  rw [this]
  rfl
theorem corn_101 : cornR (fourD 101 101) = ([], 9) := by
  unfold cornR
  rw [if_pos (by rw [asked_no four_f4 poss_101]; decide), asked_no four_f4 poss_101]
/-- the market without contracts -/
def bareD : MktD := ⟨100, [⟨60, 80, false, 0⟩, ⟨10, 30, true, 200⟩, ⟨0, 15, true, 150⟩, ⟨0, 5, false, 0⟩], []⟩
theorem bare_f : faultN bareD = 0 := by decide
theorem bare_cor (l : List Nat) (hf : faultN (keepM bareD (natsI l)) = 0) (hs : shortT (keepM bareD (natsI l)) [60, 30, 10, 0] ≤ 0) (ht : truthB (keepM bareD (natsI l)) [60, 30, 10, 0] = true) : corB bareD l = false := by
  have hv := vmkt hf
  have h1 := low_le hv ht
  unfold corB
  rw [bnd_eq (low_ne hv ht)]
  exact decide_eq_false (show ¬ 0 < lowN (keepM bareD (natsI l)) by omega)
theorem corn_bare : cornR bareD = ([], 7) := by
  unfold cornR
  rw [if_neg (fun c => c (by rw [asked_yes bare_f (by decide)]))]
  have h0 : corB bareD [] = false := bare_cor _ (by decide) (by decide) (by decide)
  have h1 : corB bareD [1] = false := bare_cor _ (by decide) (by decide) (by decide)
  have h2 : corB bareD [2] = false := bare_cor _ (by decide) (by decide) (by decide)
  have h3 : corB bareD [1, 2] = false := bare_cor _ (by decide) (by decide) (by decide)
  rw [show sizesC (sellB bareD) bareD.hou.length 0 = [[], [1], [2], [1, 2]] from by decide]
  have : fndL (corB bareD) [] [[], [1], [2], [1, 2]] = none := by
    unfold fndL
    simp [List.find?, h0, h1, h2, h3]
  rw [this]
theorem nm_set1 : provesB (fourD 60 80) [65, 20, 15, 0] [⟨2, 3, 15⟩, ⟨1, 3, 10⟩] 4250 = true := by decide +kernel
theorem nm_set2 : provesB (fourD 60 80) [65, 20, 15, 0] [⟨2, 3, 15⟩, ⟨1, 3, 10⟩] 4249 = false := by decide +kernel
theorem nm_set3 : provesB (fourD 60 80) [65, 20, 15, 0] [⟨2, 3, 15⟩] 9999 = false := by decide +kernel
theorem nm_prove : proveB (fourD 60 80) [65, 20, 15, 0] = true := by decide
theorem nm_need : needsR (fourD 60 80) [65, 20, 16, -1] = ([], [], 2) := by decide
theorem nm_setl2 : setlR (fourD 60 80) [65, 20, 14, 0] = ([], 0, 2) := by decide +kernel
theorem nm_setl10 : setlR (fourD 60 80) [80, 10, 5, 5] = ([], 0, 10) := setl_no four_f1 (by decide) (by decide)
/-- the changed markets -/
def x19 : MktD := ⟨201, (fourD 60 80).hou, (fourD 60 80).con⟩
def x20 : MktD := ⟨100, [⟨60, 201, false, 0⟩, ⟨10, 30, true, 200⟩, ⟨0, 15, true, 150⟩, ⟨0, 5, false, 0⟩], (fourD 60 80).con⟩
def x21 : MktD := ⟨100, [⟨60, 80, false, 1001⟩, ⟨10, 30, true, 200⟩, ⟨0, 15, true, 150⟩, ⟨0, 5, false, 0⟩], (fourD 60 80).con⟩
def x22 : MktD := ⟨100, (fourD 60 80).hou, [⟨3, 3, 25⟩, ⟨1, 0, 10⟩]⟩
def x23 : MktD := ⟨100, (fourD 60 80).hou, [⟨4, 0, 25⟩, ⟨1, 0, 10⟩]⟩
def x24 : MktD := ⟨100, (fourD 60 80).hou, [⟨3, 0, 0⟩, ⟨1, 0, 10⟩]⟩
def x25 : MktD := ⟨100, List.replicate 7 ⟨0, 0, false, 0⟩, (fourD 60 80).con⟩
theorem x19_f : faultN x19 = 1 := by decide
theorem x20_f : faultN x20 = 1 := by decide
theorem x21_f : faultN x21 = 1 := by decide
theorem x22_f : faultN x22 = 1 := by decide
theorem x23_f : faultN x23 = 1 := by decide
theorem x24_f : faultN x24 = 1 := by decide
theorem x25_f : faultN x25 = 3 := by decide
theorem x0_f : faultN ⟨0, [], []⟩ = 1 := by decide
end Go.Proofs.Ytallicfckbdeaaa
