/- Markets that differ in what is asked alone: plain. -/
import Derived.Test.YtallicfckbdeaaaXf
namespace Go.Proofs.Ytallicfckbdeaaa
open Go Go.RowKit Go.Tl
set_option linter.unusedVariables false
set_option linter.unusedSimpArgs false
structure SameM (m x : MktD) : Prop where
  ex : x.ex = m.ex
  len : x.hou.length = m.hou.length
  con : x.con = m.con
  hou : ∀ k, k < m.hou.length → (x.hou.getD k default).lo = (m.hou.getD k default).lo ∧ (x.hou.getD k default).hi = (m.hou.getD k default).hi ∧ (x.hou.getD k default).sells = (m.hou.getD k default).sells
theorem same_sym {m x : MktD} (h : SameM m x) : SameM x m := ⟨h.ex.symm, h.len.symm, h.con.symm, fun k hk => by
  rw [h.len] at hk
  have := h.hou k hk
  exact ⟨this.1.symm, this.2.1.symm, this.2.2.symm⟩⟩
section
variable {m x : MktD} (h : SameM m x)
include h
theorem same_pos (t : List Int) (i : Nat) : posN x t i = posN m t i := by
  show owN x.con x.con.length i + _ = owN m.con m.con.length i + _
  rw [h.con]
theorem same_spare (t : List Int) {i : Nat} (hi : i < m.hou.length) : spareN (x.hou.getD i default) (posN x t i) = spareN (m.hou.getD i default) (posN m t i) := by
  rw [same_pos h]
  unfold spareN
  rw [(h.hou i hi).2.2]
theorem same_truth (t : List Int) : truthB x t = truthB m t := by
  rw [Bool.eq_iff_iff, truth_iff, truth_iff, h.len, left_sum, left_sum, h.ex]
  constructor
  · rintro ⟨a, b, c⟩
    refine ⟨a, fun k hk => ?_, c⟩
    have := b k hk
    rw [(h.hou k hk).1, (h.hou k hk).2.1] at this
    exact this
  · rintro ⟨a, b, c⟩
    refine ⟨a, fun k hk => ?_, c⟩
    rw [(h.hou k hk).1, (h.hou k hk).2.1]
    exact b k hk
theorem same_short {t : List Int} (ht : t.length = m.hou.length) : shortT x t = shortT m t := by
  rw [short_sum ht, short_sum (by rw [h.len]; exact ht), h.len]
  refine sumF_congr fun k hk => ?_
  unfold shortF
  rw [same_spare h t hk, same_pos h]
theorem same_spK (t : List Int) (l : List SalC) {i : Nat} (hi : i < m.hou.length) : ∀ k, spK x t l k i = spK m t l k i
  | 0 => same_spare h t hi
  | k + 1 => by simp only [spK, same_spK t l hi k]
theorem same_ndK (t : List Int) (l : List SalC) (i : Nat) : ∀ k, ndK x t l k i = ndK m t l k i
  | 0 => by simp only [ndK]; rw [same_pos h]
  | k + 1 => by simp only [ndK, same_ndK t l i k]
theorem same_ok {t : List Int} {l : List SalC} {k : Nat} (ho : OkS m t l k) : OkS x t l k := by
  have h1 := ho.fr
  refine ⟨by rw [h.len]; exact h1, by rw [h.len]; exact ho.to, ho.ne, ?_⟩
  rw [same_spK h t l (by omega)]
  exact ho.sh
theorem same_set {t : List Int} {l : List SalC} (hs : SetS m t l) : SetS x t l := ⟨fun k hk => same_ok h (hs.ok k hk), fun i hi => by rw [same_ndK h]; rw [h.len] at hi; exact hs.nd i hi⟩
theorem same_needL (t : List Int) : needL x t x.hou.length = needL m t m.hou.length := by
  unfold needL
  rw [h.len]
  exact List.map_congr_left fun i _ => by rw [same_pos h]
end
theorem co_le {m x : MktD} {t : List Int} {l : List SalC} (ha : ∀ k, k < m.hou.length → (m.hou.getD k default).ask ≤ (x.hou.getD k default).ask) : ∀ k, (∀ j, j < k → OkS m t l j) → coK m l k ≤ coK x l k
  | 0, _ => Int.le_refl _
  | k + 1, ho => by
    have ih := co_le (x := x) ha k (fun j hj => ho j (by omega))
    have hk := ho k (by omega)
    have h1 := hk.fr
    have h2 := hk.sh
    simp only [coK]
    have := Int.mul_le_mul_of_nonneg_left (ha (l.getD k default).fr.toNat (by omega)) (show 0 ≤ (l.getD k default).sh by omega)
    omega
theorem co_by {m x : MktD} {t : List Int} {l : List SalC} {by' : Int} (ha : ∀ k, k < m.hou.length → (x.hou.getD k default).ask = (m.hou.getD k default).ask + by') : ∀ k, (∀ j, j < k → OkS m t l j) → coK x l k = coK m l k + by' * shK l k
  | 0, _ => by simp [coK, shK]
  | k + 1, ho => by
    have ih := co_by (x := x) ha k (fun j hj => ho j (by omega))
    have hk := ho k (by omega)
    have h1 := hk.fr
    simp only [coK, shK]
    rw [ih, ha _ (by omega), Int.mul_add, Int.mul_add, Int.mul_comm (l.getD k default).sh by']
    omega
/-- with greater asks no settlement is cheaper -/
theorem dear_le {m x : MktD} {t : List Int} (h : SameM m x) (hf : faultN m = 0) (hfx : faultN x = 0) (ht : truthB m t = true) (ha : ∀ k, k < m.hou.length → (m.hou.getD k default).ask ≤ (x.hou.getD k default).ask) : ∃ S S' a c e, setlR m t = (S, a, e) ∧ setlR x t = (S', c, e) ∧ a ≤ c ∧ (e = 0 ∨ e = 10) ∧ (e = 0 → 0 ≤ a ∧ a ≤ 100000000) ∧ (e = 0 ↔ shortT m t ≤ 0) := by
  have htx : truthB x t = true := by rw [same_truth h]; exact ht
  have hsx := same_short h (truth_iff.1 ht).1
  by_cases hs : shortT m t ≤ 0
  · obtain ⟨S, a, h1, h2, h3, h4, h5, h6⟩ := setl_yes hf ht hs
    obtain ⟨S', c, k1, k2, k3, k4, k5, k6⟩ := setl_yes hfx htx (by rw [hsx]; exact hs)
    have hm := same_set (same_sym h) k2
    refine ⟨S, S', a, c, 0, h1, k1, ?_, .inl rfl, fun _ => h5, ⟨fun _ => hs, fun _ => rfl⟩⟩
    have a1 := h6 S' hm
    have a2 := co_le (t := t) (x := x) ha S'.length hm.ok
    omega
  · have hs' : 0 < shortT m t := Int.not_le.1 hs
    exact ⟨[], [], 0, 0, 10, setl_no hf ht hs', setl_no hfx htx (by rw [hsx]; exact hs'), Int.le_refl _, .inr rfl, (fun h => by cases h), ⟨(fun h => by cases h), fun h => absurd h hs⟩⟩
/-- with all asks greater by a number it costs this number more for each share that is needed -/
theorem dear_by {m x : MktD} {t : List Int} {b : Int} (h : SameM m x) (hf : faultN m = 0) (hfx : faultN x = 0) (ht : truthB m t = true) (ha : ∀ k, k < m.hou.length → (x.hou.getD k default).ask = (m.hou.getD k default).ask + b) {S : List SalC} {a e : Int} (hR : setlR m t = (S, a, e)) : ∃ S' c, setlR x t = (S', c, e) ∧ (e = 0 → c = a + b * sumK (needL m t m.hou.length) m.hou.length) := by
  have htx : truthB x t = true := by rw [same_truth h]; exact ht
  have hsx := same_short h (truth_iff.1 ht).1
  by_cases hs : shortT m t ≤ 0
  · obtain ⟨S1, a1, h1, h2, h3, h4, h5, h6⟩ := setl_yes hf ht hs
    rw [hR] at h1
    cases h1
    obtain ⟨S', c, k1, k2, k3, k4, k5, k6⟩ := setl_yes hfx htx (by rw [hsx]; exact hs)
    refine ⟨S', c, k1, fun _ => ?_⟩
    have hm := same_set (same_sym h) k2
    have hx := same_set h h2
    have q1 := k6 S hx
    have q2 := h6 S' hm
    rw [co_by (t := t) ha S.length h2.ok] at q1
    rw [co_by (t := t) ha S'.length hm.ok] at k3
    have s1 := (set_sh h2).1
    have s2 := (set_sh hm).1
    rw [← need_sum] at s1 s2
    rw [s1] at q1
    rw [s2] at k3
    omega
  · have hs' : 0 < shortT m t := Int.not_le.1 hs
    have := setl_no hf ht hs'
    rw [hR] at this
    cases this
    exact ⟨[], 0, setl_no hfx htx (by rw [hsx]; exact hs'), fun h => by cases h⟩
end Go.Proofs.Ytallicfckbdeaaa
