/- Joined texts: RGSf, RGSk, RNo, RDa, RDb, RDe0. -/
import Derived.Test.YtlpknbneilgjkaaZgRGBf
import Derived.Test.YtlpknbneilgjkaaZgRGMp
import Derived.Test.YtlpknbneilgjkaaZgGTy
import Derived.Test.YtlpknbneilgjkaaZgRGSd
import Derived.Test.YtlpknbneilgjkaaZgCMsp
import Derived.Test.YtlpknbneilgjkaaZgRFr
import Derived.Test.YtlpknbneilgjkaaZgRGs
section
section
namespace Go.Tl
open Go Go.RowKit
end Go.Tl
namespace Go.Proofs.Ytlpknbneilgjkaa.R
open Go Go.RowKit Go.Tl
set_option linter.unusedVariables false
set_option linter.unusedSimpArgs false
set_option maxRecDepth 100000
set_option maxHeartbeats 4000000
def digL (F : Nat → Int) (H : Nat) : List Int := (List.range H).map F
theorem digL_at {F : Nat → Int} {H v : Nat} (hv : v < H) : (digL F H).getD v 0 = F v := by simp [digL, List.getD_eq_getElem?_getD, hv]
theorem prov_eq {b : BookD} (hv : VBook b) (F : Nat → Int) : ∀ k, k ≤ b.cons.length → provN b (digL F b.houses.toNat) k = provF b F k
  | 0, _ => rfl
  | k + 1, hk => by
    have hf := hv.frm k (by omega)
    have ht := hv.to k (by omega)
    simp only [provN, provF, upN]
    rw [prov_eq hv F k (by omega), digL_at (by omega), digL_at (by omega)]
attribute [local irreducible] AWP AWL AOp PV LV AWT AWE
section
variable {b : BookD} {g1 ga n h : Nat} {F : Nat → Int} {u3 : AV}
end
end Go.Proofs.Ytlpknbneilgjkaa.R
end
section
namespace Go.Proofs.Ytlpknbneilgjkaa.R
open Go Go.RowKit Go.Tl
set_option linter.unusedVariables false
set_option linter.unusedSimpArgs false
theorem acc_far {b : BookD} (hv : VBook b) (f : Nat → Int) {h : Nat} (hh : b.houses ≤ (h : Int)) : ∀ k, k ≤ b.cons.length → accN b.cons f k h = 0
  | 0, _ => rfl
  | k + 1, hk => by
    have hf := hv.frm k (by omega)
    have ht := hv.to k (by omega)
    simp only [accN]
    rw [acc_far hv f hh k (by omega), if_neg (by omega), if_neg (by omega)]
    rfl
theorem offB_iff {b : BookD} (hv : VBook b) {l : List Int} : offB b l = true ↔ l.length = b.cons.length ∧ OffF b (numF b) (fun i => l.getD i 0) := by
  have hh := hv.houses
  unfold offB
  simp only [Bool.and_eq_true, listed_iff, all_getD (d := (0 : Int)), decide_eq_true_eq]
  constructor
  · rintro ⟨⟨h1, h2⟩, h3⟩
    refine ⟨h1, fun i hi => h2 i (by omega), fun h => ?_⟩
    by_cases c : (h : Int) < b.houses
    · have := h3 h (by rw [netL_len]; omega)
      rwa [net_at (by omega)] at this
    · exact acc_far hv _ (by omega) _ (Nat.le_refl _)
  · rintro ⟨h1, h2⟩
    refine ⟨⟨h1, fun k hk => h2.bd k (by omega)⟩, fun k hk => ?_⟩
    rw [netL_len] at hk
    rw [net_at hk]
    exact h2.net k
theorem rng_at {f : Nat → Int} {n i : Nat} (h : i < n) : ((List.range n).map f).getD i 0 = f i := by simp [List.getD_eq_getElem?_getD, h]
theorem off_congr {b : BookD} {cap f g : Nat → Int} (h : ∀ i, i < b.cons.length → f i = g i) (hf : OffF b cap f) : OffF b cap g :=
  ⟨fun i hi => by rw [← h i hi]; exact hf.bd i hi, fun q => by rw [← accN_congr (f := f) _ _ h]; exact hf.net q⟩
theorem sumI_getD (l : List Int) : sumI l = sumR l.length (fun i => l.getD i 0) := by
  unfold sumR
  congr 1
  refine List.ext_getElem (by simp) fun i h1 h2 => ?_
  simp [List.getD_eq_getElem?_getD, h1]
structure GrFacts (b : BookD) (off hs : List Int) : Prop where
  len : off.length = b.cons.length
  isoff : offB b off = true
  hlen : hs.length = b.houses.toNat
  high : highB b hs = true
  prov : provN b hs b.cons.length = sumI off
  low : ∀ F : Nat → Int, sumI off ≤ provF b F b.cons.length
  ex : ∃ F : Nat → Int, (∀ v, v < b.houses.toNat → 0 ≤ F v ∧ F v ≤ b.houses - 1) ∧ hs = digL F b.houses.toNat ∧ provF b F b.cons.length = sumI off
  bd : 0 ≤ sumI off ∧ sumI off ≤ 800
theorem gr_facts {b : BookD} (hv : VBook b) {off hs : List Int} (h : isGr b off hs) : GrFacts b off hs := by
  obtain ⟨f, ho, hst, rfl, rfl⟩ := h
  have hh := hv.houses
  have hlen : ((List.range b.cons.length).map f).length = b.cons.length := by simp
  have hoff : OffF b (numF b) (fun i => ((List.range b.cons.length).map f).getD i 0) := off_congr (fun i hi => (rng_at hi).symm) ho
  have hsum : sumI ((List.range b.cons.length).map f) = sumR b.cons.length f := rfl
  have hends : ∀ a ∈ arcsL (fL (numF b) f) b.cons.length, aF b a < b.houses.toNat ∧ aT b a < b.houses.toNat := fun a ha => arc_ends hv ha
  have hd : ∀ v, v < b.houses.toNat → 0 ≤ -((bfR b (arcsL (fL (numF b) f) b.cons.length) b.houses.toNat).1 v) ∧ -((bfR b (arcsL (fL (numF b) f) b.cons.length) b.houses.toNat).1 v) ≤ b.houses - 1 := fun v hv' => by
    have h1 := bf_neg (b := b) (L := arcsL (fL (numF b) f) b.cons.length) b.houses.toNat v
    have h2 := bf_height hends hst hv'
    omega
  have hhl : (hgtL b f).length = b.houses.toNat := by simp [hgtL]
  have hdig : hgtL b f = digL (fun v => -((bfR b (arcsL (fL (numF b) f) b.cons.length) b.houses.toNat).1 v)) b.houses.toNat := rfl
  have hpr := strong_dual hv ho hst
  have hp2 := prov_eq hv (fun v => -((bfR b (arcsL (fL (numF b) f) b.cons.length) b.houses.toNat).1 v)) _ (Nat.le_refl _)
  refine ⟨hlen, (offB_iff hv).2 ⟨hlen, hoff⟩, hhl, high_iff.2 ⟨by rw [hhl]; omega, fun k hk => ?_⟩, by rw [hdig, hp2, hpr, hsum], fun F => ?_, ⟨_, hd, hdig, by rw [hpr, hsum]⟩, ?_⟩
  · rw [hhl] at hk
    rw [hdig, digL_at hk]
    have := hd k hk
    omega
  · rw [hsum]; exact weak_dual hv ho F
  · rw [hsum]; exact off_tot hv ho
theorem num_sum {b : BookD} (hv : VBook b) {f : Nat → Int} (h : OffF b (numF b) f) : sumR b.cons.length f ≤ sumI (b.cons.map (·.num)) := by
  rw [sumI_getD]
  simp only [List.length_map]
  exact sumR_le fun i hi => by rw [nums_at hi]; exact (h.bd i hi).2
theorem grf_num {b : BookD} (hv : VBook b) {off hs : List Int} (h : GrFacts b off hs) : sumI off ≤ sumI (b.cons.map (·.num)) := by
  have h2 := (offB_iff hv).1 h.isoff
  rw [sumI_getD, h2.1]
  exact num_sum hv h2.2
end Go.Proofs.Ytlpknbneilgjkaa.R
end
end
section
section
namespace Go.Tl
open Go Go.RowKit
end Go.Tl
namespace Go.Proofs.Ytlpknbneilgjkaa.R
open Go Go.RowKit Go.Tl
set_option linter.unusedVariables false
set_option linter.unusedSimpArgs false
set_option maxRecDepth 100000
set_option maxHeartbeats 4000000
def posN (f : Nat → Int) : Nat → Nat
  | 0 => 0
  | k + 1 => posN f k + if 0 < f k then 1 else 0
theorem pos_le {f g : Nat → Int} : ∀ k, (∀ i, i < k → g i ≤ f i) → posN g k ≤ posN f k
  | 0, _ => Nat.le_refl _
  | k + 1, h => by
    have ih := pos_le k (fun i hi => h i (by omega))
    have := h k (Nat.lt_succ_self _)
    simp only [posN]
    split <;> split <;> omega
theorem pos_lt {f g : Nat → Int} {j : Nat} (hf : 0 < f j) (hg : g j ≤ 0) : ∀ k, j < k → (∀ i, i < k → g i ≤ f i) → posN g k + 1 ≤ posN f k
  | 0, h, _ => absurd h (Nat.not_lt_zero _)
  | k + 1, hj, h => by
    simp only [posN]
    by_cases e : j = k
    · subst e
      have := pos_le j (fun i hi => h i (by omega))
      rw [if_neg (by omega), if_pos hf]
      omega
    · have ih := pos_lt hf hg k (by omega) (fun i hi => h i (by omega))
      have := h k (Nat.lt_succ_self _)
      split <;> split <;> omega
attribute [local irreducible] AWP AWL AOp PV LV AWT AWE
section
variable {f g : Nat → Int} {n j g10 ga k : Nat} {x : Int} {u1 u9 u7 u50 u51 u52 u35 u36 u37 v0 : AV} {rest : List Ent}
end
end Go.Proofs.Ytlpknbneilgjkaa.R
end
section
namespace Go.Proofs.Ytlpknbneilgjkaa.R
open Go Go.RowKit Go.Tl
set_option linter.unusedVariables false
set_option linter.unusedSimpArgs false
set_option maxRecDepth 100000
set_option maxHeartbeats 4000000
attribute [local irreducible] AWP AWL AOp PV LV AWT AWE
end Go.Proofs.Ytlpknbneilgjkaa.R
end
end
section
namespace Go.Proofs.Ytlpknbneilgjkaa.R
open Go Go.RowKit Go.Tl
set_option linter.unusedVariables false
set_option linter.unusedSimpArgs false
set_option maxRecDepth 100000
set_option maxHeartbeats 4000000
theorem gr_off_le {b : BookD} (hv : VBook b) {o h l : List Int} (hG : GrFacts b o h) (hl : offB b l = true) : sumI l ≤ sumI o := by
  obtain ⟨F, _, _, hF⟩ := hG.ex
  obtain ⟨h1, h2⟩ := (offB_iff hv).1 hl
  have := weak_dual hv h2 F
  rw [sumI_getD, h1]
  omega
attribute [local irreducible] AWP AWL AOp PV LV AWT AWE
section
variable {b : BookD} {ws : List Int} {g4 : Nat} {u12 : AV} {rest : List Ent}
end
end Go.Proofs.Ytlpknbneilgjkaa.R
end
section
namespace Go.Proofs.Ytlpknbneilgjkaa.R
open Go Go.RowKit Go.Tl
set_option linter.unusedVariables false
set_option linter.unusedSimpArgs false
structure DelF (b : BookD) (cap f : Nat → Int) : Prop where
  bd : ∀ i, i < b.cons.length → 0 ≤ f i ∧ f i ≤ cap i
  net : ∀ h, accN b.cons f b.cons.length h = accN b.cons (numF b) b.cons.length h
def capS (b : BookD) (S : Nat → Bool) (i : Nat) : Int := if S i then numF b i else 0
def indZ (Z : Nat → Bool) (v : Nat) : Int := if Z v then 1 else 0
def needF (b : BookD) (Z : Nat → Bool) : Nat → Int
  | 0 => 0
  | h + 1 => needF b Z h + if Z h then accN b.cons (numF b) b.cons.length h else 0
def canF (b : BookD) (S Z : Nat → Bool) : Nat → Int
  | 0 => 0
  | i + 1 => canF b S Z i + if S i && (Z (b.cons.getD i default).to.toNat && !(Z (b.cons.getD i default).frm.toNat)) then numF b i else 0
def EnoughS (b : BookD) (S : Nat → Bool) : Prop := ∀ set, set < 2 ^ b.houses.toNat → needF b (fun v => set.testBit v) b.houses.toNat ≤ canF b S (fun v => set.testBit v) b.cons.length
theorem need_sum (b : BookD) (Z : Nat → Bool) : ∀ k, needF b Z k = sumR k (fun h => indZ Z h * accN b.cons (numF b) b.cons.length h)
  | 0 => rfl
  | k + 1 => by
    rw [sumR_succ, ← need_sum b Z k]
    simp only [needF, indZ]
    split <;> simp
theorem need_congr {b : BookD} {Z Z' : Nat → Bool} : ∀ {k : Nat}, (∀ v, v < k → Z v = Z' v) → needF b Z k = needF b Z' k
  | 0, _ => rfl
  | k + 1, h => by simp only [needF]; rw [need_congr (k := k) (fun v hv => h v (by omega)), h k (Nat.lt_succ_self _)]
theorem can_congr {b : BookD} (hv : VBook b) {S S' Z Z' : Nat → Bool} (hZ : ∀ v, v < b.houses.toNat → Z v = Z' v) : ∀ {k : Nat}, k ≤ b.cons.length → (∀ i, i < k → S i = S' i) → canF b S Z k = canF b S' Z' k
  | 0, _, _ => rfl
  | k + 1, hk, h => by
    have hf := hv.frm k (by omega)
    have ht := hv.to k (by omega)
    simp only [canF]
    rw [can_congr hv hZ (k := k) (by omega) (fun v hv => h v (by omega)), h k (Nat.lt_succ_self _), hZ _ (show (b.cons.getD k default).to.toNat < b.houses.toNat by omega), hZ _ (show (b.cons.getD k default).frm.toNat < b.houses.toNat by omega)]
theorem enough_congr {b : BookD} (hv : VBook b) {S S' : Nat → Bool} (h : ∀ i, i < b.cons.length → S i = S' i) (hE : EnoughS b S) : EnoughS b S' := fun set hs => by
  rw [← can_congr hv (Z := fun v => set.testBit v) (fun _ _ => rfl) (Nat.le_refl _) h]
  exact hE set hs
theorem enough_of {b : BookD} (hv : VBook b) {S : Nat → Bool} {f : Nat → Int} (h : DelF b (capS b S) f) : EnoughS b S := fun set _ => by
  generalize (fun v => set.testBit v) = Z
  have h1 := wsum hv f (indZ Z) b.cons.length (Nat.le_refl _)
  rw [need_sum]
  have h2 : (fun h : Nat => indZ Z h * accN b.cons (numF b) b.cons.length h) = fun v => indZ Z v * accN b.cons f b.cons.length v := by funext v; rw [h.net]
  rw [h2, ← h1]
  have : ∀ k, k ≤ b.cons.length → sumR k (fun i => f i * (indZ Z (b.cons.getD i default).to.toNat - indZ Z (b.cons.getD i default).frm.toNat)) ≤ canF b S Z k := fun k => by
    induction k with
    | zero => intro _; exact Int.le_refl _
    | succ k ih =>
      intro hk
      have ih := ih (by omega)
      have hb := h.bd k (by omega)
      have key : f k * (indZ Z (b.cons.getD k default).to.toNat - indZ Z (b.cons.getD k default).frm.toNat) ≤ if S k && (Z (b.cons.getD k default).to.toNat && !(Z (b.cons.getD k default).frm.toNat)) then numF b k else 0 := by
        unfold capS at hb
        unfold indZ
        cases Z (b.cons.getD k default).to.toNat <;> cases Z (b.cons.getD k default).frm.toNat <;> cases hS : S k <;> simp [hS] at hb ⊢ <;> omega
      rw [sumR_succ]
      simp only [canF]
      omega
  exact this _ (Nat.le_refl _)
theorem set_ex (Z : Nat → Bool) : ∀ H, ∃ set, set < 2 ^ H ∧ ∀ v, v < H → set.testBit v = Z v
  | 0 => ⟨0, by simp, fun v hv => absurd hv (Nat.not_lt_zero _)⟩
  | H + 1 => by
    obtain ⟨s, hs, h⟩ := set_ex Z H
    have hp : 2 ^ (H + 1) = 2 ^ H + 2 ^ H := by rw [Nat.pow_succ]; omega
    cases e : Z H
    · refine ⟨s, by omega, fun v hv => ?_⟩
      by_cases c : v = H
      · subst c; rw [e]; exact Nat.testBit_lt_two_pow hs
      · exact h v (by omega)
    · refine ⟨2 ^ H + s, by omega, fun v hv => ?_⟩
      by_cases c : v = H
      · subst c; rw [e, Nat.testBit_two_pow_add_eq, Nat.testBit_lt_two_pow hs]; rfl
      · rw [Nat.testBit_two_pow_add_gt (by omega)]; exact h v (by omega)
theorem cut_not {b : BookD} (hv : VBook b) {S Z : Nat → Bool} {f nd : Nat → Int} (hbd : ∀ i, i < b.cons.length → 0 ≤ f i ∧ f i ≤ capS b S i)
    (hnd : ∀ h, h < b.houses.toNat → nd h + accN b.cons f b.cons.length h = accN b.cons (numF b) b.cons.length h)
    (hout : ∀ i, i < b.cons.length → Z (b.cons.getD i default).frm.toNat = true → Z (b.cons.getD i default).to.toNat = false → f i = capS b S i)
    (hin : ∀ i, i < b.cons.length → Z (b.cons.getD i default).to.toNat = true → Z (b.cons.getD i default).frm.toNat = false → f i = 0)
    (hle : ∀ h, h < b.houses.toNat → Z h = true → nd h ≤ 0) {h0 : Nat} (hh0 : h0 < b.houses.toNat) (hz0 : Z h0 = true) (hlt : nd h0 < 0) : ¬ EnoughS b S := fun hE => by
  obtain ⟨set, hs, hset⟩ := set_ex (fun v => !Z v) b.houses.toNat
  have h1 := hE set hs
  rw [need_congr hset, can_congr hv hset (Nat.le_refl _) (fun _ _ => rfl)] at h1
  have h2 := wsum hv f (indZ fun v => !Z v) b.cons.length (Nat.le_refl _)
  have h3 : ∀ k, k ≤ b.cons.length → sumR k (fun i => f i * (indZ (fun v => !Z v) (b.cons.getD i default).to.toNat - indZ (fun v => !Z v) (b.cons.getD i default).frm.toNat)) = canF b S (fun v => !Z v) k := fun k => by
    induction k with
    | zero => intro _; rfl
    | succ k ih =>
      intro hk
      have ih := ih (by omega)
      have ho := hout k (by omega)
      have hi := hin k (by omega)
      rw [sumR_succ, ih]
      simp only [canF]
      congr 1
      unfold capS at ho
      unfold indZ
      show f k * ((if (!Z (b.cons.getD k default).to.toNat) = true then (1 : Int) else 0) - if (!Z (b.cons.getD k default).frm.toNat) = true then 1 else 0) = if (S k && (!Z (b.cons.getD k default).to.toNat && !!Z (b.cons.getD k default).frm.toNat)) = true then numF b k else 0
      generalize Z (b.cons.getD k default).to.toNat = z1 at *
      generalize Z (b.cons.getD k default).frm.toNat = z2 at *
      generalize numF b k = w at *
      generalize f k = y at *
      generalize S k = sk at *
      cases z1 <;> cases z2 <;> cases sk <;> simp at ho hi ⊢ <;> omega
  rw [h3 _ (Nat.le_refl _)] at h2
  rw [h2, need_sum] at h1
  have h4 : sumR b.houses.toNat (fun h => indZ (fun v => !Z v) h * accN b.cons (numF b) b.cons.length h) = sumR b.houses.toNat (fun h => indZ (fun v => !Z v) h * nd h) + sumR b.houses.toNat (fun h => indZ (fun v => !Z v) h * accN b.cons f b.cons.length h) := by
    rw [← sumR_add]
    refine sumR_congr fun h hh => ?_
    rw [← hnd h hh, Int.mul_add]
  have h5 : sumR b.houses.toNat nd = 0 := by
    have e1 := acc_sum hv f b.cons.length (Nat.le_refl _)
    have e2 := acc_sum hv (numF b) b.cons.length (Nat.le_refl _)
    have e3 : sumR b.houses.toNat (fun h => nd h + accN b.cons f b.cons.length h) = sumR b.houses.toNat (fun h => accN b.cons (numF b) b.cons.length h) := sumR_congr fun h hh => hnd h hh
    rw [sumR_add, e1, e2] at e3
    have : sumR b.houses.toNat (fun h => nd h) = sumR b.houses.toNat nd := rfl
    omega
  have h6 : ∀ k, k ≤ b.houses.toNat → sumR k nd + (if h0 < k then 1 else 0) ≤ sumR k (fun h => indZ (fun v => !Z v) h * nd h) := fun k => by
    induction k with
    | zero => intro _; exact Int.le_refl _
    | succ k ih =>
      intro hk
      have ih := ih (by omega)
      have hl := hle k (by omega)
      rw [sumR_succ, sumR_succ]
      have e1 : indZ (fun v => !Z v) k * nd k = if Z k then 0 else nd k := by unfold indZ; show (if (!Z k) = true then (1 : Int) else 0) * nd k = _; cases Z k <;> simp
      rw [e1]
      by_cases c : h0 = k
      · subst c
        rw [hz0, if_pos rfl, if_pos (Nat.lt_succ_self _)]
        rw [if_neg (Nat.lt_irrefl _)] at ih
        omega
      · by_cases c2 : h0 < k
        · rw [if_pos c2] at ih
          rw [if_pos (by omega)]
          cases e : Z k
          · simp; omega
          · have := hl e; simp; omega
        · rw [if_neg c2] at ih
          rw [if_neg (by omega)]
          cases e : Z k
          · simp; omega
          · have := hl e; simp; omega
  have h7 := h6 b.houses.toNat (Nat.le_refl _)
  rw [if_pos hh0] at h7
  omega
theorem del_full {b : BookD} (hv : VBook b) {S : Nat → Bool} (hS : ∀ i, i < b.cons.length → S i = true) : DelF b (capS b S) (numF b) :=
  ⟨fun i hi => by have := hv.num i hi; unfold capS; rw [hS i hi, if_pos rfl]; unfold numF; omega, fun _ => rfl⟩
end Go.Proofs.Ytlpknbneilgjkaa.R
end
section
namespace Go.Proofs.Ytlpknbneilgjkaa.R
open Go Go.RowKit Go.Tl
set_option linter.unusedVariables false
set_option linter.unusedSimpArgs false
def Ext (n : Int) (e : List Int) (fr : Int) : Prop := (∀ x ∈ e, fr ≤ x ∧ x < n) ∧ e.Pairwise (· < ·)
theorem ext_iff {n : Int} {e : List Int} {fr : Int} : Ext n e fr ↔ (∀ x ∈ e, fr ≤ x ∧ x < n) ∧ e.Pairwise (· < ·) := Iff.rfl
theorem ext_nil {n fr : Int} : Ext n [] fr := ⟨(fun x hx => by cases hx), List.Pairwise.nil⟩
theorem ext_cons {n y fr : Int} {e : List Int} : Ext n (y :: e) fr ↔ fr ≤ y ∧ y < n ∧ Ext n e (y + 1) := by
  simp only [Ext, List.pairwise_cons, List.mem_cons, forall_eq_or_imp]
  constructor
  · rintro ⟨⟨⟨h1, h2⟩, h3⟩, h4, h5⟩
    exact ⟨h1, h2, fun x hx => by have := h3 x hx; have := h4 x hx; omega, h5⟩
  · rintro ⟨h1, h2, h3, h4⟩
    exact ⟨⟨⟨h1, h2⟩, fun x hx => by have := h3 x hx; omega⟩, fun x hx => by have := h3 x hx; omega, h4⟩
def lexL : List Int → List Int → Prop
  | x :: a, y :: c => x < y ∨ (x = y ∧ lexL a c)
  | _, _ => False
def lessL (a c : List Int) : Prop := a.length < c.length ∨ (a.length = c.length ∧ lexL a c)
def inL (e : List Int) (i : Nat) : Bool := e.contains (i : Int)
theorem inL_iff {e : List Int} {i : Nat} : inL e i = true ↔ (i : Int) ∈ e := by unfold inL; simp
def EnL (b : BookD) (e : List Int) : Prop := EnoughS b (inL e)
structure MinS (b : BookD) (s : List Int) : Prop where
  ext : Ext b.cons.length s 0
  en : EnL b s
  min : ∀ e, Ext b.cons.length e 0 → EnL b e → ¬ lessL e s
def bitsL (m : Nat) : Nat → List Int
  | 0 => []
  | k + 1 => bitsL m k ++ if m.testBit k then [(k : Int)] else []
theorem bits_mem {m : Nat} {x : Int} : ∀ {k : Nat}, x ∈ bitsL m k ↔ ∃ i : Nat, x = i ∧ i < k ∧ m.testBit i = true
  | 0 => ⟨(fun h => by cases h), (fun ⟨i, _, h, _⟩ => absurd h (Nat.not_lt_zero _))⟩
  | k + 1 => by
    simp only [bitsL, List.mem_append, bits_mem (k := k)]
    constructor
    · rintro (⟨i, h1, h2, h3⟩ | h)
      · exact ⟨i, h1, by omega, h3⟩
      · split at h
        · rename_i e
          exact ⟨k, List.mem_singleton.1 h, Nat.lt_succ_self _, e⟩
        · cases h
    · rintro ⟨i, h1, h2, h3⟩
      by_cases c : i = k
      · subst c
        right
        rw [if_pos h3]
        exact List.mem_singleton.2 h1
      · exact .inl ⟨i, h1, by omega, h3⟩
theorem bits_asc (m : Nat) : ∀ k, (bitsL m k).Pairwise (· < ·)
  | 0 => .nil
  | k + 1 => by
    simp only [bitsL]
    rw [List.pairwise_append]
    refine ⟨bits_asc m k, by split <;> simp, fun x hx y hy => ?_⟩
    obtain ⟨i, h1, h2, _⟩ := bits_mem.1 hx
    split at hy
    · have := List.mem_singleton.1 hy; omega
    · cases hy
theorem test_lt {m n i : Nat} (hm : m < 2 ^ n) (h : m.testBit i = true) : i < n := by
  refine Classical.byContradiction fun hn => ?_
  have : m.testBit i = false := Nat.testBit_lt_two_pow (Nat.lt_of_lt_of_le hm (Nat.pow_le_pow_right (by omega) (by omega)))
  rw [this] at h
  cases h
theorem bits_ext {m n : Nat} (hm : m < 2 ^ n) (hn : n ≤ 16) : Ext n (bitsL m 16) 0 := by
  refine ext_iff.2 ⟨fun x hx => ?_, bits_asc m 16⟩
  obtain ⟨i, h1, _, h3⟩ := bits_mem.1 hx
  have := test_lt hm h3
  omega
theorem bits_in {m n : Nat} (hm : m < 2 ^ n) (hn : n ≤ 16) (i : Nat) : inL (bitsL m 16) i = m.testBit i := by
  cases e : m.testBit i
  · cases e2 : inL (bitsL m 16) i
    · rfl
    · obtain ⟨j, h1, _, h3⟩ := bits_mem.1 (inL_iff.1 e2)
      obtain rfl : i = j := by omega
      rw [e] at h3; cases h3
  · exact inL_iff.2 (bits_mem.2 ⟨i, rfl, by have := test_lt hm e; omega, e⟩)
theorem enL_bits {b : BookD} (hv : VBook b) {m : Nat} (hm : m < 2 ^ b.cons.length) : EnL b (bitsL m 16) ↔ EnoughS b (fun i => m.testBit i) := by
  have hl := hv.len
  exact ⟨fun h => enough_congr hv (fun i _ => bits_in hm (by omega) i) h, fun h => enough_congr hv (fun i _ => (bits_in hm (by omega) i).symm) h⟩
end Go.Proofs.Ytlpknbneilgjkaa.R
end
section
namespace Go.Proofs.Ytlpknbneilgjkaa.R
open Go Go.RowKit Go.Tl
set_option linter.unusedVariables false
set_option linter.unusedSimpArgs false
set_option maxRecDepth 100000
set_option maxHeartbeats 4000000
def bRows (Z : Nat → Bool) (n : Nat) : List (List AV) := (List.range n).map fun v => [boolA (Z v)]
theorem bRows_len (Z : Nat → Bool) (n : Nat) : (bRows Z n).length = n := by simp [bRows]
theorem bRows_at {Z : Nat → Bool} {n v : Nat} (h : v < n) : ((bRows Z n).getD v [])[0]? = some (boolA (Z v)) := by
  simp [bRows, List.getD_eq_getElem?_getD, h]
theorem bRows_set {Z Z' : Nat → Bool} {n v : Nat} {x : Bool} (h : v < n) (hZ : ∀ q, q < n → Z' q = if q = v then x else Z q) : (bRows Z n).set v (spA ((bRows Z n).getD v []) 0 [boolA x]) = bRows Z' n := by
  refine List.ext_getElem (by simp [bRows]) fun i h1 h2 => ?_
  simp [bRows] at h1 h2
  have hi := hZ i h2
  by_cases c : v = i
  · subst c
    rw [if_pos rfl] at hi
    simp [bRows, List.getD_eq_getElem?_getD, h, spA, hi]
  · rw [if_neg (fun e => c e.symm)] at hi
    simp [bRows, List.getElem_set, c, hi]
def unF (Z : Nat → Bool) (v : Nat) : Int := if Z v then 0 else 1
inductive BrPost (b : BookD) (cap : Nat → Int) (at' : Nat) (most : Int) (Z : Nat → Bool) (nd f : Nat → Int) : Int → (Nat → Bool) → (Nat → Int) → (Nat → Int) → Prop
  | none {Z' : Nat → Bool} (hsub : ∀ v, Z v = true → Z' v = true) (hat : Z' at' = true)
      (hcl : ∀ v, v < b.houses.toNat → Z' v = true → Z v = false → nd v ≤ 0 ∧ ∀ a : Arc, a.1 < b.cons.length → 0 < fL cap f a → aF b a = v → Z' (aT b a) = true) : BrPost b cap at' most Z nd f 0 Z' nd f
  | some {n : Int} {Z' : Nat → Bool} {nd' f' : Nat → Int} (hn : 1 ≤ n ∧ n ≤ most) (hbd : ∀ i, i < b.cons.length → 0 ≤ f' i ∧ f' i ≤ cap i)
      (hsum : ∀ v, nd' v + accN b.cons f' b.cons.length v = nd v + accN b.cons f b.cons.length v - if at' = v then n else 0)
      (hnd : ∀ v, nd' v ≤ nd v ∧ (nd' v = nd v ∨ 0 ≤ nd' v))
      (hkeep : ∀ i, i < b.cons.length → (Z (b.cons.getD i default).frm.toNat = true ∨ Z (b.cons.getD i default).to.toNat = true) → f' i = f i) : BrPost b cap at' most Z nd f n Z' nd' f'
structure BrMid (b : BookD) (cap : Nat → Int) (at' : Nat) (Z : Nat → Bool) (nd f : Nat → Int) (l : List Arc) (Z' : Nat → Bool) : Prop where
  sub : ∀ v, Z v = true → Z' v = true
  hat : Z' at' = true
  cl : ∀ v, v < b.houses.toNat → Z' v = true → Z v = false → v ≠ at' → nd v ≤ 0 ∧ ∀ a : Arc, a.1 < b.cons.length → 0 < fL cap f a → aF b a = v → Z' (aT b a) = true
  arc : ∀ a ∈ l, aF b a = at' → Z' (aT b a) = true
theorem mid_nil {b : BookD} {cap : Nat → Int} {at' : Nat} {Z : Nat → Bool} {nd f : Nat → Int} : BrMid b cap at' Z nd f [] (fun v => if v = at' then true else Z v) := by
  refine ⟨fun v h => ?_, if_pos rfl, fun v _ h1 h2 h3 => ?_, fun a ha => by cases ha⟩
  · show (if v = at' then true else Z v) = true
    split
    · rfl
    · exact h
  · have h1' : (if v = at' then true else Z v) = true := h1
    rw [if_neg h3, h2] at h1'
    cases h1'
theorem mid_skip {b : BookD} {cap : Nat → Int} {at' : Nat} {Z Z' : Nat → Bool} {nd f : Nat → Int} {l : List Arc} {a : Arc} (h : BrMid b cap at' Z nd f l Z') (ha : aF b a = at' → Z' (aT b a) = true) : BrMid b cap at' Z nd f (l ++ [a]) Z' :=
  ⟨h.sub, h.hat, h.cl, fun a' h' => by
    rcases List.mem_append.1 h' with h' | h'
    · exact h.arc a' h'
    · rw [List.mem_singleton.1 h']; exact ha⟩
theorem mid_none {b : BookD} {cap : Nat → Int} {at' : Nat} {Z Z' Z'' : Nat → Bool} {nd f : Nat → Int} {l : List Arc} {a : Arc} (h : BrMid b cap at' Z nd f l Z') (hsub : ∀ v, Z' v = true → Z'' v = true) (hat : Z'' (aT b a) = true)
    (hcl : ∀ v, v < b.houses.toNat → Z'' v = true → Z' v = false → nd v ≤ 0 ∧ ∀ a : Arc, a.1 < b.cons.length → 0 < fL cap f a → aF b a = v → Z'' (aT b a) = true) : BrMid b cap at' Z nd f (l ++ [a]) Z'' := by
  refine ⟨fun v hv => hsub v (h.sub v hv), hsub _ h.hat, fun v hv h1 h2 h3 => ?_, fun a' h' e => ?_⟩
  · cases c : Z' v
    · exact hcl v hv h1 c
    · have := h.cl v hv c h2 h3
      exact ⟨this.1, fun a h4 h5 h6 => hsub _ (this.2 a h4 h5 h6)⟩
  · rcases List.mem_append.1 h' with h' | h'
    · exact hsub _ (h.arc a' h' e)
    · rw [List.mem_singleton.1 h']; exact hat
theorem mid_end {b : BookD} {cap : Nat → Int} {at' : Nat} {most : Int} {Z Z' : Nat → Bool} {nd f : Nat → Int} (h : BrMid b cap at' Z nd f (arcsL (fL cap f) b.cons.length) Z') (hnd : nd at' ≤ 0) : BrPost b cap at' most Z nd f 0 Z' nd f :=
  .none h.sub h.hat fun v hv h1 h2 => by
    by_cases c : v = at'
    · subst c
      exact ⟨hnd, fun a h3 h4 h5 => h.arc a (mem_arcs.2 ⟨h3, h4⟩) h5⟩
    · exact h.cl v hv h1 h2 c
theorem post_here {b : BookD} {cap : Nat → Int} {at' : Nat} {most n : Int} {Z Z' : Nat → Bool} {nd f : Nat → Int} (hbd : ∀ i, i < b.cons.length → 0 ≤ f i ∧ f i ≤ cap i) (hm : 1 ≤ most) (hn : 0 < nd at') (e : n = min most (nd at')) :
    BrPost b cap at' most Z nd f n Z' (fun q => if q = at' then nd at' - n else nd q) f := by
  refine .some (by omega) hbd (fun v => ?_) (fun v => ?_) (fun i _ _ => rfl)
  · show (if v = at' then nd at' - n else nd v) + _ = _
    by_cases c : v = at'
    · subst c; rw [if_pos rfl, if_pos rfl]; omega
    · rw [if_neg c, if_neg (fun h => c h.symm)]; omega
  · show (if v = at' then nd at' - n else nd v) ≤ _ ∧ ((if v = at' then nd at' - n else nd v) = _ ∨ 0 ≤ (if v = at' then nd at' - n else nd v))
    by_cases c : v = at'
    · subst c; rw [if_pos rfl]; omega
    · rw [if_neg c]; omega
theorem post_push {b : BookD} (hv : VBook b) {cap : Nat → Int} {at' : Nat} {most n : Int} {Z Z' Z2 Z3 : Nat → Bool} {nd f nd' f' : Nat → Int} {a : Arc} (ha : a.1 < b.cons.length) (hF : aF b a = at') (hsub : ∀ v, Z v = true → Z' v = true) (hat : Z' at' = true) (hZ : Z at' = false) (hto : Z' (aT b a) = false)
    (hn : 1 ≤ n) (h : BrPost b cap (aT b a) (min most (fL cap f a)) Z' nd f n Z2 nd' f') : BrPost b cap at' most Z nd f n Z3 nd' (psh f' a n) := by
  cases h with
  | none => omega
  | some hn' hbd hsum hnd hkeep =>
    have hfr := hv.frm a.1 ha
    have hto' := hv.to a.1 ha
    have hends : (b.cons.getD a.1 default).frm.toNat = at' ∧ (b.cons.getD a.1 default).to.toNat = aT b a ∨ (b.cons.getD a.1 default).to.toNat = at' ∧ (b.cons.getD a.1 default).frm.toNat = aT b a := by
      unfold aF at hF
      unfold aT
      cases h2 : a.2
      · rw [h2] at hF; exact .inl ⟨hF, rfl⟩
      · rw [h2] at hF; exact .inr ⟨hF, rfl⟩
    have hk : f' a.1 = f a.1 := hkeep a.1 ha (by rcases hends with ⟨e, _⟩ | ⟨e, _⟩ <;> rw [e] <;> simp [hat])
    refine .some ⟨hn, by omega⟩ (fun i hi => ?_) (fun v => ?_) hnd (fun i hi hz => ?_)
    · have h1 := hbd i hi
      unfold psh
      by_cases c : i = a.1
      · subst c
        rw [if_pos rfl]
        have h2 : n ≤ fL cap f a := by omega
        unfold fL at h2
        cases h3 : a.2
        · rw [h3] at h2
          have h4 : n ≤ cap a.1 - f a.1 := h2
          simp; omega
        · rw [h3] at h2
          have h4 : n ≤ f a.1 := h2
          simp; omega
      · rw [if_neg c]; exact h1
    · rw [psh_acc hv _ ha, hF]
      have := hsum v
      omega
    · have hne : i ≠ a.1 := fun e => by
        subst e
        have hzat : Z (aT b a) = false := by
          cases c : Z (aT b a)
          · rfl
          · rw [hsub _ c] at hto; cases hto
        rcases hends with ⟨e1, e2⟩ | ⟨e1, e2⟩ <;> rw [e1, e2, hZ, hzat] at hz <;> simp at hz
      unfold psh
      rw [if_neg hne]
      exact hkeep i hi (by rcases hz with h | h; exact .inl (hsub _ h); exact .inr (hsub _ h))
theorem fL_bd2 {b : BookD} {cap off : Nat → Int} (hcap : ∀ i, i < b.cons.length → cap i ≤ 100) (h : ∀ i, i < b.cons.length → 0 ≤ off i ∧ off i ≤ cap i) {a : Arc} (ha : a.1 < b.cons.length) : 0 ≤ fL cap off a ∧ fL cap off a ≤ 100 := by
  have h1 := h a.1 ha
  have h2 := hcap a.1 ha
  unfold fL
  split <;> omega
attribute [local irreducible] AWP AWL AOp PV LV AWT AWE
section
variable {b : BookD} {cp : Bool} {g3 g5 g7 g8 g10 g11 ga gmo gr gs gn gw gm gb at' H : Nat} {nd : Nat → Int} {F F1 : Arc → Int} {a : Arc} {rest : List Ent} {u2 u8 : AV} {x most : Int} {ro : Option Nat}
theorem de_3 (ht : at' < H) (hH : H ≤ 6) {ops : Array Oper} (h : regF Try.f154 3 = some ops) :
    AWP Try.prog Try.f154.ntmps none (.region 3 ops true) (cutQ (fun s h => s = [(9, intA (min most (nd at'))), (3, .v (ptrV g5)), (6, .v (ptrV ga)), (8, .v (ptrV gr))] ∧ h = .cl ga 3 [intA at'] :: .cl gmo 3 [intA most] :: .cl g5 29 [.v (.slice (some ⟨gn, 0, none⟩) H H)] :: .rw (.slice (some ⟨gn, 0, none⟩) H H) 3 1 (fRows nd H) :: rest))
      [(3, .v (ptrV g5)), (6, .v (ptrV ga)), (7, .v (ptrV gmo)), (8, .v (ptrV gr))] (.cl ga 3 [intA at'] :: .cl gmo 3 [intA most] :: .cl g5 29 [.v (.slice (some ⟨gn, 0, none⟩) H H)] :: .rw (.slice (some ⟨gn, 0, none⟩) H H) 3 1 (fRows nd H) :: rest) := by
  cases h
  have r1 : ((fRows nd H).getD at' [])[0]? = some (intA (nd at')) := fRows_at ht
  have r2 := fRows_len nd H
  refine awp_tree T0 [(0, 1), (1, 1), (2, 1), (3, 0), (4, 1), (5, 0), (6, 0)] (.op 0 1 (.op 1 1 (.op 2 1 (.op 3 0 (.op 4 1 (.op 5 0 (.op 6 0 .stop))))))) [.cl ga _ _, .cl gmo _ _, .cl g5 _ _, .rw _ _ _ _] rfl (by kernel_rfl) (by solve | repeat' constructor) ?_
  refine awt_lo rfl (wt_none rfl) (lv_cl1 T0 rfl rfl rfl (by solve | repeat' constructor) (by first | rfl | assumption)) rfl rfl rfl ?_
  refine awt_lo rfl (wt_none rfl) (lv_cl1 T0 rfl rfl rfl (by solve | repeat' constructor) (by first | rfl | assumption)) rfl rfl rfl ?_
  refine awt_lo rfl (wt_none rfl) (lv_cl1 T0 rfl rfl rfl (by solve | repeat' constructor) (by first | rfl | assumption)) rfl rfl rfl ?_
  refine awt_po rfl (wt_none rfl) (pv_ix_own T0 rfl rfl rfl rfl (by omega) (by first | exact (rfl : Int.toNat 0 = 0) | exact Int.toNat_natCast _ | rfl)) rfl rfl ?_
  refine awt_lo rfl (wt_none rfl) (lv_rp T0 rfl rfl rfl (by solve | repeat' constructor) (by first | omega | (simp; omega)) (by omega) (by first | assumption | rfl)) rfl rfl rfl ?_
  refine awt_po rfl (wt_none rfl) (pv_min2 rfl rfl rfl) rfl rfl ?_
  refine awt_po rfl (wt_none rfl) (pv_assign rfl rfl) rfl rfl ?_
  refine awt_end ?_
  exact cut_n ⟨rfl, rfl⟩ (by first | ((repeat' (first | exact True.intro | refine ⟨rfl, ?_⟩)); all_goals fail) | fail) (SubH.refl _)
theorem de_12 (b1 : -1000000 ≤ F a ∧ F a ≤ 1000000) (b2 : -1000000 ≤ x ∧ x ≤ 2000000) (hF : ∀ q, F1 q = if q = a then F a - x else F q) {ops : Array Oper} (h : regG Try.f154 12 = some ops) :
    AWP Try.prog Try.f154.ntmps ro (.region 12 ops true) (cutQ (fun s h => s = [(4, .v (ptrV g3)), (8, u8), (10, .v (ptrV g10)), (12, intA x)] ∧ h = .cl g10 232 [intA (a.1 : Nat), boolA a.2] :: .cl g3 167 [.v (ptrV gw)] :: workE gw gm b cp :: leftM gm F1 :: rest))
      [(4, .v (ptrV g3)), (8, u8), (10, .v (ptrV g10)), (12, intA x)] (.cl g10 232 [intA (a.1 : Nat), boolA a.2] :: .cl g3 167 [.v (ptrV gw)] :: workE gw gm b cp :: leftM gm F :: rest) := by
  cases h
  have hup : updF (fun q => intA (F q)) a (intA (F a - x)) = fun q => intA (F1 q) := by
    funext q
    unfold updF
    rw [hF]
    split <;> rfl
  refine awp_tree T0 [(0, 1), (1, 0), (2, 0), (3, 1), (4, 1), (6, 0), (5, 3), (7, 0), (8, 3), (9, 0), (10, 3)] (.op 0 1 (.op 1 0 (.op 2 0 (.op 3 1 (.op 4 1 (.op 6 0 (.fork 5 (.op 7 0 (.op 8 3 (.op 9 0 (.op 10 3 .stop)))) 8 (.op 9 0 (.op 5 3 (.op 7 0 (.op 10 3 .stop))))))))))) [.cl g10 _ _, .cl g3 _ _, .cl gw _ _] rfl (by kernel_rfl) (by solve | repeat' constructor) ?_
  refine awt_lo rfl (wt_none rfl) (lv_cl1 T0 rfl rfl rfl (by solve | repeat' constructor) (by first | rfl | assumption)) rfl rfl rfl ?_
  refine awt_po rfl (wt_none rfl) (pv_nilCheck rfl rfl) rfl rfl ?_
  refine awt_po rfl (wt_none rfl) (pv_fa T0 rfl rfl rfl (by simp; rfl)) rfl rfl ?_
  refine awt_lo rfl (wt_none rfl) (lv_cl1 T0 rfl rfl rfl (by solve | repeat' constructor) (by first | rfl | assumption)) rfl rfl rfl ?_
  refine awt_lo rfl (wt_none rfl) (lv_cla T0 rfl rfl rfl (by solve | repeat' constructor) rfl) rfl rfl rfl ?_
  refine awt_po rfl (wt_none rfl) (pv_move rfl rfl) rfl rfl ?_
  refine awt_fork ?_ ?_
  · skip
    refine awt_h (hm := []) rfl (wt_none rfl) (by solve | repeat' constructor) rfl (aop_lv (lv_lookupF Ma (k := a) rfl rfl rfl rfl (by solve | repeat' constructor) rfl) rfl (blt_lt rfl) ?_)
    refine awt_n1 rfl (wt_none rfl) (pv_sub rfl rfl rfl (by first | assumption | exact wr64 (by omega))) rfl rfl rfl ?_
    refine awt_s (md := fun _ => True) rfl (wt_none rfl) (aop_mapEntryF Ma (k := a) rfl rfl rfl rfl rfl rfl (fun n => (by solve | repeat' constructor)) trivial (fun n => ?_))
    refine awe_p rfl (wt_none rfl) (pv_extract rfl rfl rfl) rfl rfl ?_
    refine awe_s (md := fun _ => True) rfl (wt_none rfl) (aop_entryStoreF Ma rfl rfl rfl rfl rfl (by solve | repeat' constructor) hup trivial ?_)
    refine awe_end ?_
    exact cut_n ⟨rfl, rfl⟩ (by first | ((repeat' (first | exact True.intro | refine ⟨rfl, ?_⟩)); all_goals fail) | fail) (SubH.refl _)
  · skip
    refine awt_h (hm := [leftM gm F]) rfl (wt_none rfl) (by solve | repeat' constructor) rfl (aop_mapEntryF Ma (k := a) rfl rfl rfl rfl rfl rfl (fun n => (by solve | repeat' constructor)) ⟨_, List.mem_singleton.2 rfl, rfl⟩ (fun n => ?_))
    refine awt_n1 rfl (wt_none rfl) (pv_extract rfl rfl rfl) rfl rfl rfl ?_
    refine awt_s (md := fun _ => True) rfl (wt_none rfl) (aop_lv (lv_lookupF Ma (k := a) rfl rfl rfl rfl (by solve | repeat' constructor) rfl) rfl (blt_lt rfl) ?_)
    refine awe_p rfl (wt_none rfl) (pv_sub rfl rfl rfl (by first | assumption | exact wr64 (by omega))) rfl rfl ?_
    refine awe_s (md := fun _ => True) rfl (wt_none rfl) (aop_entryStoreF Ma rfl rfl rfl rfl rfl (by solve | repeat' constructor) hup trivial ?_)
    refine awe_end ?_
    exact cut_n ⟨rfl, rfl⟩ (by first | ((repeat' (first | exact True.intro | refine ⟨rfl, ?_⟩)); all_goals fail) | fail) (SubH.refl _)
theorem de_13 (b1 : -1000000 ≤ F (a.1, !a.2) ∧ F (a.1, !a.2) ≤ 1000000) (b2 : -1000000 ≤ x ∧ x ≤ 2000000) (hF : ∀ q, F1 q = if q = (a.1, !a.2) then F (a.1, !a.2) + x else F q) {ops : Array Oper} (h : regG Try.f154 13 = some ops) :
    AWP Try.prog Try.f154.ntmps ro (.region 13 ops true) (cutQ (fun s h => s = [(8, u8), (12, intA x)] ∧ h = .cl g10 232 [intA (a.1 : Nat), boolA a.2] :: .cl g3 167 [.v (ptrV gw)] :: workE gw gm b cp :: leftM gm F1 :: rest))
      [(4, .v (ptrV g3)), (8, u8), (10, .v (ptrV g10)), (12, intA x)] (.cl g10 232 [intA (a.1 : Nat), boolA a.2] :: .cl g3 167 [.v (ptrV gw)] :: workE gw gm b cp :: leftM gm F :: rest) := by
  cases h
  have hup : updF (fun q => intA (F q)) (a.1, !a.2) (intA (F (a.1, !a.2) + x)) = fun q => intA (F1 q) := by
    funext q
    unfold updF
    rw [hF]
    split <;> rfl
  refine awp_tree T0 [(0, 1), (1, 0), (2, 0), (3, 1), (4, 0), (5, 1), (6, 0), (7, 1), (8, 0), (9, 0), (11, 0), (10, 3), (12, 0), (13, 3), (14, 0), (15, 3)] (.op 0 1 (.op 1 0 (.op 2 0 (.op 3 1 (.op 4 0 (.op 5 1 (.op 6 0 (.op 7 1 (.op 8 0 (.op 9 0 (.op 11 0 (.fork 10 (.op 12 0 (.op 13 3 (.op 14 0 (.op 15 3 .stop)))) 13 (.op 14 0 (.op 10 3 (.op 12 0 (.op 15 3 .stop)))))))))))))))) [.cl g10 _ _, .cl g3 _ _, .cl gw _ _] rfl (by kernel_rfl) (by solve | repeat' constructor) ?_
  refine awt_lo rfl (wt_none rfl) (lv_cl1 T0 rfl rfl rfl (by solve | repeat' constructor) (by first | rfl | assumption)) rfl rfl rfl ?_
  refine awt_po rfl (wt_none rfl) (pv_nilCheck rfl rfl) rfl rfl ?_
  refine awt_po rfl (wt_none rfl) (pv_fa T0 rfl rfl rfl (by simp; rfl)) rfl rfl ?_
  refine awt_lo rfl (wt_none rfl) (lv_cl1 T0 rfl rfl rfl (by solve | repeat' constructor) (by first | rfl | assumption)) rfl rfl rfl ?_
  refine awt_po rfl (wt_none rfl) (pv_fa T0 rfl rfl rfl (by simp; rfl)) rfl rfl ?_
  refine awt_lo rfl (wt_none rfl) (lv_cl1 T0 rfl rfl rfl (by solve | repeat' constructor) (by first | rfl | assumption)) rfl rfl rfl ?_
  refine awt_po rfl (wt_none rfl) (pv_fa T0 rfl rfl rfl (by simp; rfl)) rfl rfl ?_
  refine awt_lo rfl (wt_none rfl) (lv_cl1 T0 rfl rfl rfl (by solve | repeat' constructor) (by first | rfl | assumption)) rfl rfl rfl ?_
  refine awt_po rfl (wt_none rfl) (pv_not rfl rfl) rfl rfl ?_
  refine awt_po rfl (wt_none rfl) (pv_build T0 rfl rfl rfl (by simp only [Value.cells, List.toList_toArray, List.map_cons, List.map_nil]; rfl) (by first | ((repeat' (first | exact BParts.nil | apply BParts.cons | rfl)); all_goals fail) | fail) (by first | ((repeat' (first | exact FillA.nil | exact Sp.done | apply FillA.cons | apply Sp.put | apply Sp.skip | (simp only [cellsA]; rfl) | rfl)); all_goals fail) | fail)) rfl rfl ?_
  refine awt_po rfl (wt_none rfl) (pv_move rfl rfl) rfl rfl ?_
  refine awt_fork ?_ ?_
  · skip
    refine awt_h (hm := []) rfl (wt_none rfl) (by solve | repeat' constructor) rfl (aop_lv (lv_lookupF Ma (k := (a.1, !a.2)) rfl rfl rfl rfl (by solve | repeat' constructor) rfl) rfl (blt_lt rfl) ?_)
    refine awt_n1 rfl (wt_none rfl) (pv_add rfl rfl rfl (by first | assumption | exact wr64 (by omega))) rfl rfl rfl ?_
    refine awt_s (md := fun _ => True) rfl (wt_none rfl) (aop_mapEntryF Ma (k := (a.1, !a.2)) rfl rfl rfl rfl rfl rfl (fun n => (by solve | repeat' constructor)) trivial (fun n => ?_))
    refine awe_p rfl (wt_none rfl) (pv_extract rfl rfl rfl) rfl rfl ?_
    refine awe_s (md := fun _ => True) rfl (wt_none rfl) (aop_entryStoreF Ma rfl rfl rfl rfl rfl (by solve | repeat' constructor) hup trivial ?_)
    refine awe_end ?_
    exact cut_n ⟨rfl, rfl⟩ (by first | ((repeat' (first | exact True.intro | refine ⟨rfl, ?_⟩)); all_goals fail) | fail) (SubH.refl _)
  · skip
    refine awt_h (hm := [leftM gm F]) rfl (wt_none rfl) (by solve | repeat' constructor) rfl (aop_mapEntryF Ma (k := (a.1, !a.2)) rfl rfl rfl rfl rfl rfl (fun n => (by solve | repeat' constructor)) ⟨_, List.mem_singleton.2 rfl, rfl⟩ (fun n => ?_))
    refine awt_n1 rfl (wt_none rfl) (pv_extract rfl rfl rfl) rfl rfl rfl ?_
    refine awt_s (md := fun _ => True) rfl (wt_none rfl) (aop_lv (lv_lookupF Ma (k := (a.1, !a.2)) rfl rfl rfl rfl (by solve | repeat' constructor) rfl) rfl (blt_lt rfl) ?_)
    refine awe_p rfl (wt_none rfl) (pv_add rfl rfl rfl (by first | assumption | exact wr64 (by omega))) rfl rfl ?_
    refine awe_s (md := fun _ => True) rfl (wt_none rfl) (aop_entryStoreF Ma rfl rfl rfl rfl rfl (by solve | repeat' constructor) hup trivial ?_)
    refine awe_end ?_
    exact cut_n ⟨rfl, rfl⟩ (by first | ((repeat' (first | exact True.intro | refine ⟨rfl, ?_⟩)); all_goals fail) | fail) (SubH.refl _)
abbrev brE (g3 g5 g7 g8 gs gn gw gm : Nat) (b : BookD) (cp : Bool) (H : Nat) (Z : Nat → Bool) (nd : Nat → Int) (F : Arc → Int) : List Ent :=
  [.cl g7 88 [.v (.slice (some ⟨gs, 0, none⟩) H H)], .rw (.slice (some ⟨gs, 0, none⟩) H H) 4 1 (bRows Z H), .cl g5 29 [.v (.slice (some ⟨gn, 0, none⟩) H H)], .rw (.slice (some ⟨gn, 0, none⟩) H H) 3 1 (fRows nd H), .cl g3 167 [.v (ptrV gw)], workE gw gm b cp, leftM gm F, .cl g8 280 [.v (.func (.func 154) #[] #[ptrV g7, ptrV g5, ptrV g3, ptrV g8])]]
theorem de_10 {Z : Nat → Bool} {R : Int → (Nat → Bool) → (Nat → Int) → (Arc → Int) → Prop} (hC : ACall Try.prog 154 [intA (aT b a : Nat), intA (min most (F a)), .v (ptrV g7), .v (ptrV g5), .v (ptrV g3), .v (ptrV g8)] (brE g3 g5 g7 g8 gs gn gw gm b cp H Z nd F) (fun r h' => ∃ n Z' nd' F', R n Z' nd' F' ∧ r = intA n ∧ h' = brE g3 g5 g7 g8 gs gn gw gm b cp H Z' nd' F'))
    {ops : Array Oper} (h : regG Try.f154 10 = some ops) :
    AWP Try.prog Try.f154.ntmps ro (.region 10 ops true) (cutQ (fun s h => ∃ n Z' nd' F', R n Z' nd' F' ∧ s = [(12, intA n), (2, u2), (4, .v (ptrV g3)), (5, .v (ptrV g8)), (6, .v (ptrV ga)), (7, .v (ptrV gmo)), (8, u8), (10, .v (ptrV g10)), (11, .v (ptrV g11))] ∧ h = brE g3 g5 g7 g8 gs gn gw gm b cp H Z' nd' F' ++ [.cl g10 232 [intA (a.1 : Nat), boolA a.2], .cl gmo 3 [intA most]] ++ rest))
      [(2, u2), (4, .v (ptrV g3)), (5, .v (ptrV g8)), (6, .v (ptrV ga)), (7, .v (ptrV gmo)), (8, u8), (10, .v (ptrV g10)), (11, .v (ptrV g11))] (.cl g11 272 [intA (aF b a : Nat), intA (aT b a : Nat), intA (aC a)] :: brE g3 g5 g7 g8 gs gn gw gm b cp H Z nd F ++ [.cl g10 232 [intA (a.1 : Nat), boolA a.2], .cl gmo 3 [intA most]] ++ rest) := by
  cases h
  simp only [List.cons_append, List.nil_append]
  refine awp_tree T0 [(0, 1), (1, 0), (2, 1), (3, 1), (4, 1), (5, 0), (6, 0), (7, 1), (8, 1), (9, 1), (10, 0), (11, 3), (12, 0)] (.op 0 1 (.op 1 0 (.op 2 1 (.op 3 1 (.op 4 1 (.op 5 0 (.op 6 0 (.op 7 1 (.op 8 1 (.op 9 1 (.op 10 0 (.op 11 3 (.op 12 0 .stop))))))))))))) [.cl g11 _ _, .cl g7 _ _, .rw (.slice (some ⟨gs, 0, none⟩) H H) _ _ _, .cl g5 _ _, .rw (.slice (some ⟨gn, 0, none⟩) H H) _ _ _, .cl g3 _ _, .cl gw _ _, leftM gm F, .cl g8 _ _, .cl g10 _ _, .cl gmo _ _] rfl (by kernel_rfl) (by solve | repeat' constructor) ?_
  refine awt_lo rfl (wt_none rfl) (lv_cl1 T0 rfl rfl rfl (by solve | repeat' constructor) (by first | rfl | assumption)) rfl rfl rfl ?_
  refine awt_po rfl (wt_none rfl) (pv_ix_arr T0 rfl rfl rfl rfl (by omega) (by simp; rfl)) rfl rfl ?_
  refine awt_lo rfl (wt_none rfl) (lv_cl1 T0 rfl rfl rfl (by solve | repeat' constructor) (by first | rfl | assumption)) rfl rfl rfl ?_
  refine awt_lo rfl (wt_none rfl) (lv_cl1 T0 rfl rfl rfl (by solve | repeat' constructor) (by first | rfl | assumption)) rfl rfl rfl ?_
  refine awt_lo rfl (wt_none rfl) (lv_cl1 T0 rfl rfl rfl (by solve | repeat' constructor) (by first | rfl | assumption)) rfl rfl rfl ?_
  refine awt_po rfl (wt_none rfl) (pv_nilCheck rfl rfl) rfl rfl ?_
  refine awt_po rfl (wt_none rfl) (pv_fa T0 rfl rfl rfl (by simp; rfl)) rfl rfl ?_
  refine awt_lo rfl (wt_none rfl) (lv_cl1 T0 rfl rfl rfl (by solve | repeat' constructor) (by first | rfl | assumption)) rfl rfl rfl ?_
  refine awt_lo rfl (wt_none rfl) (lv_cla T0 rfl rfl rfl (by solve | repeat' constructor) rfl) rfl rfl rfl ?_
  refine awt_lo rfl (wt_none rfl) (lv_lookupF Ma (k := a) rfl rfl rfl rfl (by solve | repeat' constructor) rfl) rfl rfl rfl ?_
  refine awt_po rfl (wt_none rfl) (pv_min2 rfl rfl rfl) rfl rfl ?_
  refine awt_s (md := fun _ => True) rfl (wt_none rfl) (st_acall T0 (hC) rfl rfl rfl rfl (by first | exact callee_lit | exact callee_v | exact callee_fn | assumption) (by solve | repeat' constructor) (by first | rfl | assumption) rfl (by first | ((repeat' (first | exact SubH.refl _ | apply SubH.cons | exact Pick.here | apply Pick.there)); all_goals fail) | fail) (fun _ _ => trivial) ?_)
  rintro r h' ⟨n, Z', nd', F', hR, rfl, rfl⟩
  refine awe_p rfl (wt_none rfl) (pv_assign rfl rfl) rfl rfl ?_
  refine awe_end ?_
  exact cut_n ⟨n, Z', nd', F', hR, rfl, rfl⟩ (by first | ((repeat' (first | exact True.intro | refine ⟨rfl, ?_⟩)); all_goals fail) | fail) (by simp only [List.cons_append, List.nil_append]; repeat' (first | exact subh_tail _ _ | exact Pick.here | apply Pick.there | apply SubH.cons))
end
end Go.Proofs.Ytlpknbneilgjkaa.R
end
