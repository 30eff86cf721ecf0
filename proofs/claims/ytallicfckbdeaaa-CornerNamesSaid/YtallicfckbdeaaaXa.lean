/- Truths, shortages and sums: plain facts. -/
import Derived.Test.YtallicfckbdeaaaWo
import Derived.Test.YtallicfckbdeaaaGHf
import Derived.Test.YtallicfckbdeaaaGIe
namespace Go.Proofs.Ytallicfckbdeaaa
open Go Go.RowKit Go.Tl
set_option linter.unusedVariables false
set_option linter.unusedSimpArgs false
def sumF (f : Nat → Int) : Nat → Int
  | 0 => 0
  | k + 1 => sumF f k + f k
theorem sumF_cons (f : Nat → Int) : ∀ n, sumF f (n + 1) = f 0 + sumF (fun k => f (k + 1)) n
  | 0 => by simp [sumF]
  | n + 1 => by
    have ih := sumF_cons f n
    have e1 : sumF f (n + 1 + 1) = sumF f (n + 1) + f (n + 1) := rfl
    have e2 : sumF (fun k => f (k + 1)) (n + 1) = sumF (fun k => f (k + 1)) n + f (n + 1) := rfl
    rw [e1, e2]
    omega
theorem sumF_congr {f g : Nat → Int} : ∀ {n : Nat}, (∀ k, k < n → f k = g k) → sumF f n = sumF g n
  | 0, _ => rfl
  | n + 1, h => by
    have ih := sumF_congr (n := n) (fun k hk => h k (by omega))
    have := h n (by omega)
    simp only [sumF, ih, this]
theorem sumF_le {f g : Nat → Int} : ∀ {n : Nat}, (∀ k, k < n → f k ≤ g k) → sumF f n ≤ sumF g n
  | 0, _ => Int.le_refl _
  | n + 1, h => by
    have ih := sumF_le (n := n) (fun k hk => h k (by omega))
    have := h n (by omega)
    simp only [sumF]
    omega
theorem sumF_sub (f g : Nat → Int) : ∀ n, sumF (fun k => f k - g k) n = sumF f n - sumF g n
  | 0 => rfl
  | n + 1 => by
    have ih := sumF_sub f g n
    simp only [sumF]
    omega
theorem sumF_add (f g : Nat → Int) : ∀ n, sumF (fun k => f k + g k) n = sumF f n + sumF g n
  | 0 => rfl
  | n + 1 => by
    have ih := sumF_add f g n
    simp only [sumF]
    omega
theorem sumF_zero {f : Nat → Int} : ∀ {n : Nat}, (∀ k, k < n → f k = 0) → sumF f n = 0
  | 0, _ => rfl
  | n + 1, h => by
    have ih := sumF_zero (n := n) (fun k hk => h k (by omega))
    have := h n (by omega)
    simp only [sumF]
    omega
theorem sumF_one {s : Nat} {x : Int} : ∀ {n : Nat}, sumF (fun i => if (s : Int) = (i : Int) then x else 0) n = if s < n then x else 0
  | 0 => rfl
  | n + 1 => by
    have ih := sumF_one (s := s) (x := x) (n := n)
    simp only [sumF]
    rw [ih]
    repeat' split
    all_goals omega
theorem sumK_map (f : Nat → Int) (n : Nat) : ∀ k, k ≤ n → sumK ((List.range n).map f) k = sumF f k
  | 0, _ => rfl
  | k + 1, h => by
    have ih := sumK_map f n k (by omega)
    have e : ((List.range n).map f).getD k 0 = f k := by simp [List.getD_eq_getElem?_getD, show k < n by omega]
    simp only [sumK, sumF]
    rw [ih, e]
theorem lack_sum (of : HouD → Int → Int) (ow : Nat → Int) : ∀ (hs : List HouD) (s : Nat) (t : List Int), t.length = hs.length → lackS of ow hs s t = sumF (fun k => of (hs.getD k default) (ow (s + k) + t.getD k 0)) hs.length
  | [], s, t, _ => by cases t <;> rfl
  | h :: hs, s, [], e => by cases e
  | h :: hs, s, x :: t, e => by
    have ih := lack_sum of ow hs (s + 1) t (by simpa using e)
    simp only [lackS, List.length_cons]
    rw [sumF_cons, ih]
    congr 1
    exact sumF_congr fun k _ => by rw [show s + (k + 1) = s + 1 + k by omega]; rfl
theorem short_sum {m : MktD} {t : List Int} (ht : t.length = m.hou.length) : shortT m t = sumF (fun k => shortF (m.hou.getD k default) (posN m t k)) m.hou.length := by
  show lackS shortF (owedN m) m.hou 0 t = _
  rw [lack_sum _ _ _ _ _ ht]
  exact sumF_congr fun k _ => by rw [Nat.zero_add]
theorem need_sum (m : MktD) (t : List Int) : sumK (needL m t m.hou.length) m.hou.length = sumF (fun i => needN (posN m t i)) m.hou.length := sumK_map _ _ _ (Nat.le_refl _)
theorem spare_sum (m : MktD) (t : List Int) : sumK (spareL m t m.hou.length) m.hou.length = sumF (fun i => spareN (m.hou.getD i default) (posN m t i)) m.hou.length := sumK_map _ _ _ (Nat.le_refl _)
theorem short_need {m : MktD} {t : List Int} (ht : t.length = m.hou.length) : sumK (needL m t m.hou.length) m.hou.length - sumK (spareL m t m.hou.length) m.hou.length = shortT m t := by
  rw [need_sum, spare_sum, short_sum ht, ← sumF_sub]
  rfl
/-- what is owed to all houses together is nothing -/
theorem ow_sum {cs : List ConD} {n : Nat} (h : ∀ k, k < cs.length → (0 ≤ (cs.getD k default).sh ∧ (cs.getD k default).sh < n) ∧ (0 ≤ (cs.getD k default).lg ∧ (cs.getD k default).lg < n)) : ∀ k, k ≤ cs.length → sumF (owN cs k) n = 0
  | 0, _ => sumF_zero fun _ _ => rfl
  | k + 1, hk => by
    have ih := ow_sum h k (by omega)
    obtain ⟨⟨h1, h2⟩, h3, h4⟩ := h k (by omega)
    obtain ⟨a, ha⟩ : ∃ a : Nat, (cs.getD k default).sh = a := ⟨(cs.getD k default).sh.toNat, by omega⟩
    obtain ⟨b, hb⟩ : ∃ b : Nat, (cs.getD k default).lg = b := ⟨(cs.getD k default).lg.toNat, by omega⟩
    have e : sumF (owN cs (k + 1)) n = sumF (fun i => (owN cs k i - (if (a : Int) = (i : Int) then (cs.getD k default).n else 0)) + (if (b : Int) = (i : Int) then (cs.getD k default).n else 0)) n := sumF_congr fun i _ => by rw [← ha, ← hb]; rfl
    rw [e, sumF_add (fun i => owN cs k i - (if (a : Int) = (i : Int) then (cs.getD k default).n else 0)), sumF_sub (owN cs k), ih, sumF_one, sumF_one, if_pos (by omega), if_pos (by omega)]
    omega
theorem owed_sum {m : MktD} (hv : VMkt m) : sumF (owedN m) m.hou.length = 0 := ow_sum (fun k hk => ⟨(hv.con k hk).1, (hv.con k hk).2.1⟩) _ (Nat.le_refl _)
theorem left_sum (m : MktD) (t : List Int) : ∀ k, leftN m t k = m.ex - sumF (fun i => t.getD i 0) k
  | 0 => by simp [leftN, sumF]
  | k + 1 => by
    have ih := left_sum m t k
    simp only [leftN, sumF]
    omega
/-- all positions together are all shares -/
theorem pos_sum {m : MktD} {t : List Int} (hv : VMkt m) (ht : truthB m t = true) : sumF (posN m t) m.hou.length = m.ex := by
  have h1 := (truth_iff.1 ht).2.2
  rw [left_sum] at h1
  have h2 : sumF (posN m t) m.hou.length = sumF (fun i => owedN m i + t.getD i 0) m.hou.length := rfl
  rw [h2, sumF_add, owed_sum hv]
  omega
theorem lo_sum (hs : List HouD) : ∀ k, sLo hs k = sumF (fun i => (hs.getD i default).lo) k
  | 0 => rfl
  | k + 1 => by simp only [sLo, sumF, lo_sum hs k]
theorem hi_sum (hs : List HouD) : ∀ k, sHi hs k = sumF (fun i => (hs.getD i default).hi) k
  | 0 => rfl
  | k + 1 => by simp only [sHi, sumF, hi_sum hs k]
theorem lo_cons (h : HouD) (hs : List HouD) : sLo (h :: hs) (h :: hs).length = h.lo + sLo hs hs.length := by
  rw [lo_sum, lo_sum, List.length_cons, sumF_cons]
  rfl
theorem hi_cons (h : HouD) (hs : List HouD) : sHi (h :: hs) (h :: hs).length = h.hi + sHi hs hs.length := by
  rw [hi_sum, hi_sum, List.length_cons, sumF_cons]
  rfl
theorem lo_hi : ∀ {hs : List HouD}, HsOk hs → sLo hs hs.length ≤ sHi hs hs.length
  | [], _ => Int.le_refl _
  | h :: hs, ho => by
    rw [lo_cons, hi_cons]
    have := ho h List.mem_cons_self
    have := lo_hi (hs := hs) (fun y hy => ho y (List.mem_cons_of_mem _ hy))
    omega
theorem fit_ex : ∀ {hs : List HouD} {left : Int}, HsOk hs → sLo hs hs.length ≤ left → left ≤ sHi hs hs.length → ∃ t, fitP hs left t
  | [], left, _, h1, h2 => ⟨[], by simp only [sLo, sHi, List.length_nil] at h1 h2; show left = 0; omega⟩
  | h :: hs, left, ho, h1, h2 => by
    rw [lo_cons] at h1
    rw [hi_cons] at h2
    have hh := ho h List.mem_cons_self
    obtain ⟨x, hx⟩ : ∃ x, x = max h.lo (left - sHi hs hs.length) := ⟨_, rfl⟩
    obtain ⟨t, ht⟩ := fit_ex (hs := hs) (left := left - x) (fun y hy => ho y (List.mem_cons_of_mem _ hy)) (by have := lo_hi (hs := hs) (fun y hy => ho y (List.mem_cons_of_mem _ hy)); omega) (by omega)
    exact ⟨x :: t, by omega, by omega, ht⟩
theorem fit_bd : ∀ {hs : List HouD} {left : Int} {t : List Int}, fitP hs left t → sLo hs hs.length ≤ left ∧ left ≤ sHi hs hs.length
  | [], left, [], h => by simp only [fitP] at h; simp [sLo, sHi, h]
  | h :: hs, left, x :: t, hf => by
    simp only [fitP] at hf
    have ih := fit_bd hf.2.2
    rw [lo_cons, hi_cons]
    omega
  | [], _, _ :: _, h => h.elim
  | _ :: _, _, [], h => h.elim
theorem poss_iff {m : MktD} (hv : VMkt m) : possB m = true ↔ ∃ t, truthB m t = true := by
  unfold possB
  rw [inB_iff]
  constructor
  · rintro ⟨h1, h2⟩
    obtain ⟨t, ht⟩ := fit_ex (hs_ok hv) h1 h2
    exact ⟨t, truth_fit.2 ht⟩
  · rintro ⟨t, ht⟩
    exact fit_bd (truth_fit.1 ht)
theorem has_poss {m : MktD} (hv : VMkt m) : hasB m = possB m := by
  have h1 := low_never hv
  have h2 := poss_iff hv
  unfold hasB
  cases c : possB m
  · have : lowN m = never := h1.2 fun t => by
      cases e : truthB m t
      · rfl
      · rw [h2.2 ⟨t, e⟩] at c; cases c
    rw [decide_eq_true this]
    rfl
  · have : ¬ lowN m = never := fun h => by
      obtain ⟨t, ht⟩ := h2.1 c
      rw [h1.1 h t] at ht; cases ht
    rw [decide_eq_false this]
    rfl
theorem low_ne {m : MktD} {t : List Int} (hv : VMkt m) (ht : truthB m t = true) : lowN m ≠ never := fun h => by
  rw [(low_never hv).1 h t] at ht; cases ht
theorem poss_ne {m : MktD} (hv : VMkt m) (h : possB m = true) : lowN m ≠ never := by
  obtain ⟨t, ht⟩ := (poss_iff hv).1 h
  exact low_ne hv ht
theorem poss_no {m : MktD} (hv : VMkt m) (h : possB m = false) : lowN m = never := (low_never hv).2 fun t => by
  cases e : truthB m t
  · rfl
  · rw [(poss_iff hv).2 ⟨t, e⟩] at h; cases h
theorem bnd_eq {m : MktD} (h : lowN m ≠ never) : bndN m = (lowN m, highN m) := by unfold bndN; rw [if_neg h]
theorem low_high {m : MktD} (hv : VMkt m) (h : lowN m ≠ never) : lowN m ≤ highN m := by
  obtain ⟨t, h1, h2⟩ := low_at hv h
  have := le_high hv h1
  omega
/-- more truths, or greater shortages: the lower bounds compare -/
theorem low_mono {m m' : MktD} (hv : VMkt m) (hv' : VMkt m') (hs : ∀ t, truthB m' t = true → truthB m t = true ∧ shortT m t ≤ shortT m' t) (h' : lowN m' ≠ never) : lowN m ≤ lowN m' := by
  obtain ⟨t, h1, h2⟩ := low_at hv' h'
  obtain ⟨h3, h4⟩ := hs t h1
  have := low_le hv h3
  omega
theorem high_mono {m m' : MktD} (hv : VMkt m) (hv' : VMkt m') (hs : ∀ t, truthB m t = true → truthB m' t = true ∧ shortT m t ≤ shortT m' t) (h : lowN m ≠ never) : highN m ≤ highN m' := by
  obtain ⟨t, h1, h2⟩ := high_at hv h
  obtain ⟨h3, h4⟩ := hs t h1
  have := le_high hv' h3
  omega
end Go.Proofs.Ytallicfckbdeaaa
