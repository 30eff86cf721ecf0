/- Numbers in mixed bases, and the least and greatest of some numbers: plain. -/
import Derived.Test.YtallicfckbdeaaaXa
namespace Go.Proofs.Ytallicfckbdeaaa
set_option linter.unusedVariables false
set_option linter.unusedSimpArgs false
def mulK (w : Nat → Int) : Nat → Int
  | 0 => 1
  | k + 1 => mulK w k * w k
def quoK (w : Nat → Int) (n : Int) : Nat → Int
  | 0 => n
  | k + 1 => (quoK w n k).tdiv (w k)
def digK (lo w : Nat → Int) (n : Int) (k : Nat) : Int := lo k + (quoK w n k).tmod (w k)
def encK (lo w t : Nat → Int) : Nat → Nat → Int
  | 0, _ => 0
  | c + 1, k => (t k - lo k) + w k * encK lo w t c (k + 1)
section
variable {lo w t : Nat → Int} {N : Nat}
theorem mul_pos (hw : ∀ k, k < N → 1 ≤ w k) : ∀ k, k ≤ N → 1 ≤ mulK w k
  | 0, _ => Int.le_refl _
  | k + 1, h => by
    have ih := mul_pos hw k (by omega)
    have := hw k (by omega)
    simp only [mulK]
    have := Int.mul_le_mul ih this (by decide) (by omega)
    omega
theorem mul_mono (hw : ∀ k, k < N → 1 ≤ w k) : ∀ d k, k + d ≤ N → mulK w k ≤ mulK w (k + d)
  | 0, k, _ => Int.le_refl _
  | d + 1, k, h => by
    have ih := mul_mono hw d k (by omega)
    have h1 := mul_pos hw (k + d) (by omega)
    have h2 := hw (k + d) (by omega)
    have h3 : mulK w (k + (d + 1)) = mulK w (k + d) * w (k + d) := rfl
    rw [h3]
    have := Int.mul_le_mul_of_nonneg_left h2 (show 0 ≤ mulK w (k + d) by omega)
    omega
theorem quo_bd (hw : ∀ k, k < N → 1 ≤ w k) {n : Int} (hn : 0 ≤ n) : ∀ k, k ≤ N → 0 ≤ quoK w n k ∧ quoK w n k ≤ n
  | 0, _ => ⟨hn, Int.le_refl _⟩
  | k + 1, h => by
    have ih := quo_bd hw hn k (by omega)
    have := hw k (by omega)
    simp only [quoK]
    exact ⟨Int.tdiv_nonneg ih.1 (by omega), Int.le_trans (Int.tdiv_le_self _ ih.1) ih.2⟩
theorem dig_bd (hw : ∀ k, k < N → 1 ≤ w k) {n : Int} (hn : 0 ≤ n) {k : Nat} (hk : k < N) : lo k ≤ digK lo w n k ∧ digK lo w n k < lo k + w k := by
  have hq := quo_bd hw hn k (by omega)
  have := hw k hk
  have h3 : 0 ≤ (quoK w n k).tmod (w k) := Int.tmod_nonneg _ hq.1
  have h4 : (quoK w n k).tmod (w k) < w k := Int.tmod_lt_of_pos _ (by omega)
  unfold digK
  omega
theorem enc_bd (hw : ∀ k, k < N → 1 ≤ w k) (ht : ∀ k, k < N → lo k ≤ t k ∧ t k < lo k + w k) : ∀ c k, k + c = N → 0 ≤ encK lo w t c k ∧ mulK w k * (encK lo w t c k + 1) ≤ mulK w N
  | 0, k, h => by
    obtain rfl : k = N := by omega
    simp [encK]
  | c + 1, k, h => by
    have ih := enc_bd hw ht c (k + 1) (by omega)
    have hwk := hw k (by omega)
    have hm := mul_pos hw k (by omega)
    have htk := ht k (by omega)
    simp only [encK]
    have h0 : 0 ≤ w k * encK lo w t c (k + 1) := Int.mul_nonneg (by omega) ih.1
    refine ⟨by omega, Int.le_trans ?_ ih.2⟩
    have e : mulK w (k + 1) * (encK lo w t c (k + 1) + 1) = mulK w k * (w k * encK lo w t c (k + 1) + w k) := by
      show mulK w k * w k * (encK lo w t c (k + 1) + 1) = _
      rw [Int.mul_assoc, Int.mul_add, Int.mul_one]
    rw [e]
    exact Int.mul_le_mul_of_nonneg_left (by omega) (by omega)
theorem quo_enc (hw : ∀ k, k < N → 1 ≤ w k) (ht : ∀ k, k < N → lo k ≤ t k ∧ t k < lo k + w k) : ∀ k, k ≤ N → quoK w (encK lo w t N 0) k = encK lo w t (N - k) k
  | 0, _ => rfl
  | k + 1, h => by
    have ih := quo_enc hw ht k (by omega)
    have hwk := hw k (by omega)
    have htk := ht k (by omega)
    have hb := enc_bd hw ht (N - (k + 1)) (k + 1) (by omega)
    simp only [quoK]
    rw [ih, show N - k = (N - (k + 1)) + 1 by omega]
    simp only [encK]
    generalize hd : t k - lo k = d at *
    have h0 : 0 ≤ w k * encK lo w t (N - (k + 1)) (k + 1) := Int.mul_nonneg (by omega) hb.1
    rw [Int.tdiv_eq_ediv_of_nonneg (by omega), Int.add_mul_ediv_left _ _ (by omega), Int.ediv_eq_zero_of_lt (by omega) (by omega), Int.zero_add]
theorem dig_enc (hw : ∀ k, k < N → 1 ≤ w k) (ht : ∀ k, k < N → lo k ≤ t k ∧ t k < lo k + w k) {k : Nat} (hk : k < N) : digK lo w (encK lo w t N 0) k = t k := by
  have hwk := hw k hk
  have htk := ht k hk
  have hb := enc_bd hw ht (N - (k + 1)) (k + 1) (by omega)
  unfold digK
  rw [quo_enc hw ht k (by omega), show N - k = (N - (k + 1)) + 1 by omega]
  simp only [encK]
  generalize hd : t k - lo k = d at *
  have h0 : 0 ≤ w k * encK lo w t (N - (k + 1)) (k + 1) := Int.mul_nonneg (by omega) hb.1
  rw [Int.tmod_eq_emod_of_nonneg (by omega), Int.add_mul_emod_self_left, Int.emod_eq_of_lt (by omega) (by omega)]
  omega
end
/-- the least and the greatest of what S says -/
structure IsB (S : Int → Prop) (x : Int × Int) : Prop where
  lo : S x.1
  hi : S x.2
  bd : ∀ v, S v → x.1 ≤ v ∧ v ≤ x.2
theorem isB_one {S : Int → Prop} {x y : Int × Int} (hx : IsB S x) (hy : IsB S y) : x = y := by
  have h1 := hx.bd _ hy.lo
  have h2 := hx.bd _ hy.hi
  have h3 := hy.bd _ hx.lo
  have h4 := hy.bd _ hx.hi
  exact Prod.ext (by omega) (by omega)
theorem isB_wid {S : Int → Prop} {x : Int × Int} (h : IsB S x) (n : Int) : IsB (fun v => S v ∨ v = n) (min x.1 n, max x.2 n) := by
  refine ⟨?_, ?_, fun v hv => ?_⟩
  · show S (min x.1 n) ∨ min x.1 n = n
    by_cases c : x.1 ≤ n
    · left; rw [Int.min_eq_left c]; exact h.lo
    · right; omega
  · show S (max x.2 n) ∨ max x.2 n = n
    by_cases c : n ≤ x.2
    · left; rw [Int.max_eq_left c]; exact h.hi
    · right; omega
  · show min x.1 n ≤ v ∧ v ≤ max x.2 n
    rcases hv with hv | rfl
    · have := h.bd v hv; omega
    · omega
theorem isB_iff {S S' : Int → Prop} {x : Int × Int} (e : ∀ v, S v ↔ S' v) (h : IsB S x) : IsB S' x := ⟨(e _).1 h.lo, (e _).1 h.hi, fun v hv => h.bd v ((e v).2 hv)⟩
/-- the bounds of the shortage are the least and the greatest one -/
theorem bnd_isB {m : MktD} (hv : VMkt m) (h : lowN m ≠ never) : IsB (fun v => ∃ t, truthB m t = true ∧ shortT m t = v) (bndN m) := by
  rw [bnd_eq h]
  obtain ⟨t1, h1, e1⟩ := low_at hv h
  obtain ⟨t2, h2, e2⟩ := high_at hv h
  exact ⟨⟨t1, h1, e1⟩, ⟨t2, h2, e2⟩, fun v ⟨t, ht, e⟩ => by
    have a := low_le hv ht
    have b := le_high hv ht
    rw [e] at a b
    exact ⟨a, b⟩⟩
end Go.Proofs.Ytallicfckbdeaaa
