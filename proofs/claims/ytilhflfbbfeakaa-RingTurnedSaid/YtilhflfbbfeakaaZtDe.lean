/- Joined texts: GSf, Da, Db, Rr, GRi, GSi, GSk, De0, De. -/
import Derived.Test.YtilhflfbbfeakaaZtGBf
import Derived.Test.YtilhflfbbfeakaaZtGTs
import Derived.Test.YtilhflfbbfeakaaTz
import Derived.Test.YtilhflfbbfeakaaZtGSd
section
section
namespace Go.Tl
open Go Go.RowKit
end Go.Tl
namespace Go.Proofs.Ytilhflfbbfeakaa
open Go Go.RowKit Go.Tl
set_option linter.unusedVariables false
set_option linter.unusedSimpArgs false
set_option maxRecDepth 100000
set_option maxHeartbeats 4000000
def digL (F : Nat → Int) (H : Nat) : List Int := (List.range H).map F
theorem digL_at {F : Nat → Int} {H v : Nat} (hv : v < H) : (digL F H).getD v 0 = F v := by simp [digL, List.getD_eq_getElem?_getD, hv]
theorem prov_eq {b : BookD} (hv : VBook b) (F : Nat → Int) : ∀ k, k ≤ b.cons.length → provN b (digL F b.houses.toNat) k = provF b F k
  | 0, _ => rfl
  | k + 1, hk => by
    have hf := hv.frm k (by omega)
    have ht := hv.to k (by omega)
    simp only [provN, provF, upN]
    rw [prov_eq hv F k (by omega), digL_at (by omega), digL_at (by omega)]
attribute [local irreducible] AWP AWL AOp PV LV AWT AWE
section
variable {b : BookD} {g1 ga n h : Nat} {F : Nat → Int} {u3 : AV}
end
end Go.Proofs.Ytilhflfbbfeakaa
end
section
namespace Go.Proofs.Ytilhflfbbfeakaa
open Go Go.RowKit Go.Tl
set_option linter.unusedVariables false
set_option linter.unusedSimpArgs false
theorem acc_far {b : BookD} (hv : VBook b) (f : Nat → Int) {h : Nat} (hh : b.houses ≤ (h : Int)) : ∀ k, k ≤ b.cons.length → accN b.cons f k h = 0
  | 0, _ => rfl
  | k + 1, hk => by
    have hf := hv.frm k (by omega)
    have ht := hv.to k (by omega)
    simp only [accN]
    rw [acc_far hv f hh k (by omega), if_neg (by omega), if_neg (by omega)]
    rfl
theorem offB_iff {b : BookD} (hv : VBook b) {l : List Int} : offB b l = true ↔ l.length = b.cons.length ∧ OffF b (numF b) (fun i => l.getD i 0) := by
  have hh := hv.houses
  unfold offB
  simp only [Bool.and_eq_true, listed_iff, all_getD (d := (0 : Int)), decide_eq_true_eq]
  constructor
  · rintro ⟨⟨h1, h2⟩, h3⟩
    refine ⟨h1, fun i hi => h2 i (by omega), fun h => ?_⟩
    by_cases c : (h : Int) < b.houses
    · have := h3 h (by rw [netL_len]; omega)
      rwa [net_at (by omega)] at this
    · exact acc_far hv _ (by omega) _ (Nat.le_refl _)
  · rintro ⟨h1, h2⟩
    refine ⟨⟨h1, fun k hk => h2.bd k (by omega)⟩, fun k hk => ?_⟩
    rw [netL_len] at hk
    rw [net_at hk]
    exact h2.net k
theorem rng_at {f : Nat → Int} {n i : Nat} (h : i < n) : ((List.range n).map f).getD i 0 = f i := by simp [List.getD_eq_getElem?_getD, h]
theorem off_congr {b : BookD} {cap f g : Nat → Int} (h : ∀ i, i < b.cons.length → f i = g i) (hf : OffF b cap f) : OffF b cap g :=
  ⟨fun i hi => by rw [← h i hi]; exact hf.bd i hi, fun q => by rw [← accN_congr (f := f) _ _ h]; exact hf.net q⟩
structure GrFacts (b : BookD) (off hs : List Int) : Prop where
  len : off.length = b.cons.length
  isoff : offB b off = true
  hlen : hs.length = b.houses.toNat
  high : highB b hs = true
  prov : provN b hs b.cons.length = sumI off
  low : ∀ F : Nat → Int, sumI off ≤ provF b F b.cons.length
  ex : ∃ F : Nat → Int, (∀ v, v < b.houses.toNat → 0 ≤ F v ∧ F v ≤ b.houses - 1) ∧ hs = digL F b.houses.toNat ∧ provF b F b.cons.length = sumI off
  bd : 0 ≤ sumI off ∧ sumI off ≤ 800
theorem gr_facts {b : BookD} (hv : VBook b) {off hs : List Int} (h : isGr b off hs) : GrFacts b off hs := by
  obtain ⟨f, ho, hst, rfl, rfl⟩ := h
  have hh := hv.houses
  have hlen : ((List.range b.cons.length).map f).length = b.cons.length := by simp
  have hoff : OffF b (numF b) (fun i => ((List.range b.cons.length).map f).getD i 0) := off_congr (fun i hi => (rng_at hi).symm) ho
  have hsum : sumI ((List.range b.cons.length).map f) = sumR b.cons.length f := rfl
  have hends : ∀ a ∈ arcsL (fL (numF b) f) b.cons.length, aF b a < b.houses.toNat ∧ aT b a < b.houses.toNat := fun a ha => arc_ends hv ha
  have hd : ∀ v, v < b.houses.toNat → 0 ≤ -((bfR b (arcsL (fL (numF b) f) b.cons.length) b.houses.toNat).1 v) ∧ -((bfR b (arcsL (fL (numF b) f) b.cons.length) b.houses.toNat).1 v) ≤ b.houses - 1 := fun v hv' => by
    have h1 := bf_neg (b := b) (L := arcsL (fL (numF b) f) b.cons.length) b.houses.toNat v
    have h2 := bf_height hends hst hv'
    omega
  have hhl : (hgtL b f).length = b.houses.toNat := by simp [hgtL]
  have hdig : hgtL b f = digL (fun v => -((bfR b (arcsL (fL (numF b) f) b.cons.length) b.houses.toNat).1 v)) b.houses.toNat := rfl
  have hpr := strong_dual hv ho hst
  have hp2 := prov_eq hv (fun v => -((bfR b (arcsL (fL (numF b) f) b.cons.length) b.houses.toNat).1 v)) _ (Nat.le_refl _)
  refine ⟨hlen, (offB_iff hv).2 ⟨hlen, hoff⟩, hhl, high_iff.2 ⟨by rw [hhl]; omega, fun k hk => ?_⟩, by rw [hdig, hp2, hpr, hsum], fun F => ?_, ⟨_, hd, hdig, by rw [hpr, hsum]⟩, ?_⟩
  · rw [hhl] at hk
    rw [hdig, digL_at hk]
    have := hd k hk
    omega
  · rw [hsum]; exact weak_dual hv ho F
  · rw [hsum]; exact off_tot hv ho
theorem grf_elem {b : BookD} (hv : VBook b) {off hs : List Int} (h : GrFacts b off hs) : ∀ x ∈ off, -1000000000 ≤ x ∧ x ≤ 1000000000 := off_list_bd hv (by
  have := h.isoff
  unfold offB at this
  exact (Bool.and_eq_true_iff.1 this).1)
end Go.Proofs.Ytilhflfbbfeakaa
end
end
section
namespace Go.Proofs.Ytilhflfbbfeakaa
open Go Go.RowKit Go.Tl
set_option linter.unusedVariables false
set_option linter.unusedSimpArgs false
/-- numbers with which contracts make the same differences -/
structure DelF (b : BookD) (cap f : Nat → Int) : Prop where
  bd : ∀ i, i < b.cons.length → 0 ≤ f i ∧ f i ≤ cap i
  net : ∀ h, accN b.cons f b.cons.length h = accN b.cons (numF b) b.cons.length h
def capS (b : BookD) (S : Nat → Bool) (i : Nat) : Int := if S i then numF b i else 0
def indZ (Z : Nat → Bool) (v : Nat) : Int := if Z v then 1 else 0
/-- what a set of houses needs -/
def needF (b : BookD) (Z : Nat → Bool) : Nat → Int
  | 0 => 0
  | h + 1 => needF b Z h + if Z h then accN b.cons (numF b) b.cons.length h else 0
/-- what some contracts can bring to a set of houses -/
def canF (b : BookD) (S Z : Nat → Bool) : Nat → Int
  | 0 => 0
  | i + 1 => canF b S Z i + if S i && (Z (b.cons.getD i default).to.toNat && !(Z (b.cons.getD i default).frm.toNat)) then numF b i else 0
def EnoughS (b : BookD) (S : Nat → Bool) : Prop := ∀ set, set < 2 ^ b.houses.toNat → needF b (fun v => set.testBit v) b.houses.toNat ≤ canF b S (fun v => set.testBit v) b.cons.length
theorem need_sum (b : BookD) (Z : Nat → Bool) : ∀ k, needF b Z k = sumR k (fun h => indZ Z h * accN b.cons (numF b) b.cons.length h)
  | 0 => rfl
  | k + 1 => by
    rw [sumR_succ, ← need_sum b Z k]
    simp only [needF, indZ]
    split <;> simp
theorem need_congr {b : BookD} {Z Z' : Nat → Bool} : ∀ {k : Nat}, (∀ v, v < k → Z v = Z' v) → needF b Z k = needF b Z' k
  | 0, _ => rfl
  | k + 1, h => by simp only [needF]; rw [need_congr (k := k) (fun v hv => h v (by omega)), h k (Nat.lt_succ_self _)]
theorem can_congr {b : BookD} (hv : VBook b) {S S' Z Z' : Nat → Bool} (hZ : ∀ v, v < b.houses.toNat → Z v = Z' v) : ∀ {k : Nat}, k ≤ b.cons.length → (∀ i, i < k → S i = S' i) → canF b S Z k = canF b S' Z' k
  | 0, _, _ => rfl
  | k + 1, hk, h => by
    have hf := hv.frm k (by omega)
    have ht := hv.to k (by omega)
    simp only [canF]
    rw [can_congr hv hZ (k := k) (by omega) (fun v hv => h v (by omega)), h k (Nat.lt_succ_self _), hZ _ (show (b.cons.getD k default).to.toNat < b.houses.toNat by omega), hZ _ (show (b.cons.getD k default).frm.toNat < b.houses.toNat by omega)]
theorem enough_congr {b : BookD} (hv : VBook b) {S S' : Nat → Bool} (h : ∀ i, i < b.cons.length → S i = S' i) (hE : EnoughS b S) : EnoughS b S' := fun set hs => by
  rw [← can_congr hv (Z := fun v => set.testBit v) (fun _ _ => rfl) (Nat.le_refl _) h]
  exact hE set hs
/-- where there are deliveries, no set of houses needs more than can be brought -/
theorem enough_of {b : BookD} (hv : VBook b) {S : Nat → Bool} {f : Nat → Int} (h : DelF b (capS b S) f) : EnoughS b S := fun set _ => by
  generalize (fun v => set.testBit v) = Z
  have h1 := wsum hv f (indZ Z) b.cons.length (Nat.le_refl _)
  rw [need_sum]
  have h2 : (fun h : Nat => indZ Z h * accN b.cons (numF b) b.cons.length h) = fun v => indZ Z v * accN b.cons f b.cons.length v := by funext v; rw [h.net]
  rw [h2, ← h1]
  have : ∀ k, k ≤ b.cons.length → sumR k (fun i => f i * (indZ Z (b.cons.getD i default).to.toNat - indZ Z (b.cons.getD i default).frm.toNat)) ≤ canF b S Z k := fun k => by
    induction k with
    | zero => intro _; exact Int.le_refl _
    | succ k ih =>
      intro hk
      have ih := ih (by omega)
      have hb := h.bd k (by omega)
      have key : f k * (indZ Z (b.cons.getD k default).to.toNat - indZ Z (b.cons.getD k default).frm.toNat) ≤ if S k && (Z (b.cons.getD k default).to.toNat && !(Z (b.cons.getD k default).frm.toNat)) then numF b k else 0 := by
        unfold capS at hb
        unfold indZ
        cases Z (b.cons.getD k default).to.toNat <;> cases Z (b.cons.getD k default).frm.toNat <;> cases hS : S k <;> simp [hS] at hb ⊢ <;> omega
      rw [sumR_succ]
      simp only [canF]
      omega
  exact this _ (Nat.le_refl _)
/-- each set has a number -/
theorem set_ex (Z : Nat → Bool) : ∀ H, ∃ set, set < 2 ^ H ∧ ∀ v, v < H → set.testBit v = Z v
  | 0 => ⟨0, by simp, fun v hv => absurd hv (Nat.not_lt_zero _)⟩
  | H + 1 => by
    obtain ⟨s, hs, h⟩ := set_ex Z H
    have hp : 2 ^ (H + 1) = 2 ^ H + 2 ^ H := by rw [Nat.pow_succ]; omega
    cases e : Z H
    · refine ⟨s, by omega, fun v hv => ?_⟩
      by_cases c : v = H
      · subst c; rw [e]; exact Nat.testBit_lt_two_pow hs
      · exact h v (by omega)
    · refine ⟨2 ^ H + s, by omega, fun v hv => ?_⟩
      by_cases c : v = H
      · subst c; rw [e, Nat.testBit_two_pow_add_eq, Nat.testBit_lt_two_pow hs]; rfl
      · rw [Nat.testBit_two_pow_add_gt (by omega)]; exact h v (by omega)
/-- a set of houses that nothing can be brought out of any more, and from which something has to be brought -/
theorem cut_not {b : BookD} (hv : VBook b) {S Z : Nat → Bool} {f nd : Nat → Int} (hbd : ∀ i, i < b.cons.length → 0 ≤ f i ∧ f i ≤ capS b S i)
    (hnd : ∀ h, h < b.houses.toNat → nd h + accN b.cons f b.cons.length h = accN b.cons (numF b) b.cons.length h)
    (hout : ∀ i, i < b.cons.length → Z (b.cons.getD i default).frm.toNat = true → Z (b.cons.getD i default).to.toNat = false → f i = capS b S i)
    (hin : ∀ i, i < b.cons.length → Z (b.cons.getD i default).to.toNat = true → Z (b.cons.getD i default).frm.toNat = false → f i = 0)
    (hle : ∀ h, h < b.houses.toNat → Z h = true → nd h ≤ 0) {h0 : Nat} (hh0 : h0 < b.houses.toNat) (hz0 : Z h0 = true) (hlt : nd h0 < 0) : ¬ EnoughS b S := fun hE => by
  obtain ⟨set, hs, hset⟩ := set_ex (fun v => !Z v) b.houses.toNat
  have h1 := hE set hs
  rw [need_congr hset, can_congr hv hset (Nat.le_refl _) (fun _ _ => rfl)] at h1
  have h2 := wsum hv f (indZ fun v => !Z v) b.cons.length (Nat.le_refl _)
  have h3 : ∀ k, k ≤ b.cons.length → sumR k (fun i => f i * (indZ (fun v => !Z v) (b.cons.getD i default).to.toNat - indZ (fun v => !Z v) (b.cons.getD i default).frm.toNat)) = canF b S (fun v => !Z v) k := fun k => by
    induction k with
    | zero => intro _; rfl
    | succ k ih =>
      intro hk
      have ih := ih (by omega)
      have ho := hout k (by omega)
      have hi := hin k (by omega)
      rw [sumR_succ, ih]
      simp only [canF]
      congr 1
      unfold capS at ho
      unfold indZ
      show f k * ((if (!Z (b.cons.getD k default).to.toNat) = true then (1 : Int) else 0) - if (!Z (b.cons.getD k default).frm.toNat) = true then 1 else 0) = if (S k && (!Z (b.cons.getD k default).to.toNat && !!Z (b.cons.getD k default).frm.toNat)) = true then numF b k else 0
      generalize Z (b.cons.getD k default).to.toNat = z1 at *
      generalize Z (b.cons.getD k default).frm.toNat = z2 at *
      generalize numF b k = w at *
      generalize f k = y at *
      generalize S k = sk at *
      cases z1 <;> cases z2 <;> cases sk <;> simp at ho hi ⊢ <;> omega
  rw [h3 _ (Nat.le_refl _)] at h2
  rw [h2, need_sum] at h1
  have h4 : sumR b.houses.toNat (fun h => indZ (fun v => !Z v) h * accN b.cons (numF b) b.cons.length h) = sumR b.houses.toNat (fun h => indZ (fun v => !Z v) h * nd h) + sumR b.houses.toNat (fun h => indZ (fun v => !Z v) h * accN b.cons f b.cons.length h) := by
    rw [← sumR_add]
    refine sumR_congr fun h hh => ?_
    rw [← hnd h hh, Int.mul_add]
  have h5 : sumR b.houses.toNat nd = 0 := by
    have e1 := acc_sum hv f b.cons.length (Nat.le_refl _)
    have e2 := acc_sum hv (numF b) b.cons.length (Nat.le_refl _)
    have e3 : sumR b.houses.toNat (fun h => nd h + accN b.cons f b.cons.length h) = sumR b.houses.toNat (fun h => accN b.cons (numF b) b.cons.length h) := sumR_congr fun h hh => hnd h hh
    rw [sumR_add, e1, e2] at e3
    have : sumR b.houses.toNat (fun h => nd h) = sumR b.houses.toNat nd := rfl
    omega
  have h6 : ∀ k, k ≤ b.houses.toNat → sumR k nd + (if h0 < k then 1 else 0) ≤ sumR k (fun h => indZ (fun v => !Z v) h * nd h) := fun k => by
    induction k with
    | zero => intro _; exact Int.le_refl _
    | succ k ih =>
      intro hk
      have ih := ih (by omega)
      have hl := hle k (by omega)
      rw [sumR_succ, sumR_succ]
      have e1 : indZ (fun v => !Z v) k * nd k = if Z k then 0 else nd k := by unfold indZ; show (if (!Z k) = true then (1 : Int) else 0) * nd k = _; cases Z k <;> simp
      rw [e1]
      by_cases c : h0 = k
      · subst c
        rw [hz0, if_pos rfl, if_pos (Nat.lt_succ_self _)]
        rw [if_neg (Nat.lt_irrefl _)] at ih
        omega
      · by_cases c2 : h0 < k
        · rw [if_pos c2] at ih
          rw [if_pos (by omega)]
          cases e : Z k
          · simp; omega
          · have := hl e; simp; omega
        · rw [if_neg c2] at ih
          rw [if_neg (by omega)]
          cases e : Z k
          · simp; omega
          · have := hl e; simp; omega
  have h7 := h6 b.houses.toNat (Nat.le_refl _)
  rw [if_pos hh0] at h7
  omega
/-- all contracts have their Numbers -/
theorem del_full {b : BookD} (hv : VBook b) {S : Nat → Bool} (hS : ∀ i, i < b.cons.length → S i = true) : DelF b (capS b S) (numF b) :=
  ⟨fun i hi => by have := hv.num i hi; unfold capS; rw [hS i hi, if_pos rfl]; unfold numF; omega, fun _ => rfl⟩
end Go.Proofs.Ytilhflfbbfeakaa
end
section
namespace Go.Proofs.Ytilhflfbbfeakaa
open Go Go.RowKit Go.Tl
set_option linter.unusedVariables false
set_option linter.unusedSimpArgs false
/-- a list of numbers that rise, from one on -/
def Ext (n : Int) (e : List Int) (fr : Int) : Prop := (∀ x ∈ e, fr ≤ x ∧ x < n) ∧ e.Pairwise (· < ·)
theorem ext_iff {n : Int} {e : List Int} {fr : Int} : Ext n e fr ↔ (∀ x ∈ e, fr ≤ x ∧ x < n) ∧ e.Pairwise (· < ·) := Iff.rfl
theorem ext_nil {n fr : Int} : Ext n [] fr := ⟨(fun x hx => by cases hx), List.Pairwise.nil⟩
theorem ext_cons {n y fr : Int} {e : List Int} : Ext n (y :: e) fr ↔ fr ≤ y ∧ y < n ∧ Ext n e (y + 1) := by
  simp only [Ext, List.pairwise_cons, List.mem_cons, forall_eq_or_imp]
  constructor
  · rintro ⟨⟨⟨h1, h2⟩, h3⟩, h4, h5⟩
    exact ⟨h1, h2, fun x hx => by have := h3 x hx; have := h4 x hx; omega, h5⟩
  · rintro ⟨h1, h2, h3, h4⟩
    exact ⟨⟨⟨h1, h2⟩, fun x hx => by have := h3 x hx; omega⟩, fun x hx => by have := h3 x hx; omega, h4⟩
def lexL : List Int → List Int → Prop
  | x :: a, y :: c => x < y ∨ (x = y ∧ lexL a c)
  | _, _ => False
def lessL (a c : List Int) : Prop := a.length < c.length ∨ (a.length = c.length ∧ lexL a c)
theorem lex_tri : ∀ {a c : List Int}, a.length = c.length → lexL a c ∨ a = c ∨ lexL c a
  | [], [], _ => .inr (.inl rfl)
  | [], _ :: _, h => by cases h
  | _ :: _, [], h => by cases h
  | x :: a, y :: c, h => by
    rcases Int.lt_trichotomy x y with e | e | e
    · exact .inl (.inl e)
    · rcases lex_tri (a := a) (c := c) (by simpa using h) with h2 | h2 | h2
      · exact .inl (.inr ⟨e, h2⟩)
      · exact .inr (.inl (by rw [e, h2]))
      · exact .inr (.inr (.inr ⟨e.symm, h2⟩))
    · exact .inr (.inr (.inl e))
theorem less_tri (a c : List Int) : lessL a c ∨ a = c ∨ lessL c a := by
  rcases Nat.lt_trichotomy a.length c.length with e | e | e
  · exact .inl (.inl e)
  · rcases lex_tri e with h | h | h
    · exact .inl (.inr ⟨e, h⟩)
    · exact .inr (.inl h)
    · exact .inr (.inr (.inr ⟨e.symm, h⟩))
  · exact .inr (.inr (.inl e))
/-- the contracts of a list -/
def inL (e : List Int) (i : Nat) : Bool := e.contains (i : Int)
theorem inL_iff {e : List Int} {i : Nat} : inL e i = true ↔ (i : Int) ∈ e := by unfold inL; simp
def EnL (b : BookD) (e : List Int) : Prop := EnoughS b (inL e)
/-- the smallest list with which there are deliveries -/
structure MinS (b : BookD) (s : List Int) : Prop where
  ext : Ext b.cons.length s 0
  en : EnL b s
  min : ∀ e, Ext b.cons.length e 0 → EnL b e → ¬ lessL e s
theorem min_unique {b : BookD} {s t : List Int} (h1 : MinS b s) (h2 : MinS b t) : s = t := by
  rcases less_tri s t with h | h | h
  · exact absurd h (h2.min s h1.ext h1.en)
  · exact h
  · exact absurd h (h1.min t h2.ext h2.en)
/-- the numbers of bits -/
def bitsL (m : Nat) : Nat → List Int
  | 0 => []
  | k + 1 => bitsL m k ++ if m.testBit k then [(k : Int)] else []
theorem bits_mem {m : Nat} {x : Int} : ∀ {k : Nat}, x ∈ bitsL m k ↔ ∃ i : Nat, x = i ∧ i < k ∧ m.testBit i = true
  | 0 => ⟨(fun h => by cases h), (fun ⟨i, _, h, _⟩ => absurd h (Nat.not_lt_zero _))⟩
  | k + 1 => by
    simp only [bitsL, List.mem_append, bits_mem (k := k)]
    constructor
    · rintro (⟨i, h1, h2, h3⟩ | h)
      · exact ⟨i, h1, by omega, h3⟩
      · split at h
        · rename_i e
          exact ⟨k, List.mem_singleton.1 h, Nat.lt_succ_self _, e⟩
        · cases h
    · rintro ⟨i, h1, h2, h3⟩
      by_cases c : i = k
      · subst c
        right
        rw [if_pos h3]
        exact List.mem_singleton.2 h1
      · exact .inl ⟨i, h1, by omega, h3⟩
theorem bits_asc (m : Nat) : ∀ k, (bitsL m k).Pairwise (· < ·)
  | 0 => .nil
  | k + 1 => by
    simp only [bitsL]
    rw [List.pairwise_append]
    refine ⟨bits_asc m k, by split <;> simp, fun x hx y hy => ?_⟩
    obtain ⟨i, h1, h2, _⟩ := bits_mem.1 hx
    split at hy
    · have := List.mem_singleton.1 hy; omega
    · cases hy
theorem test_lt {m n i : Nat} (hm : m < 2 ^ n) (h : m.testBit i = true) : i < n := by
  refine Classical.byContradiction fun hn => ?_
  have : m.testBit i = false := Nat.testBit_lt_two_pow (Nat.lt_of_lt_of_le hm (Nat.pow_le_pow_right (by omega) (by omega)))
  rw [this] at h
  cases h
theorem bits_ext {m n : Nat} (hm : m < 2 ^ n) (hn : n ≤ 16) : Ext n (bitsL m 16) 0 := by
  refine ext_iff.2 ⟨fun x hx => ?_, bits_asc m 16⟩
  obtain ⟨i, h1, _, h3⟩ := bits_mem.1 hx
  have := test_lt hm h3
  omega
theorem bits_in {m n : Nat} (hm : m < 2 ^ n) (hn : n ≤ 16) (i : Nat) : inL (bitsL m 16) i = m.testBit i := by
  cases e : m.testBit i
  · cases e2 : inL (bitsL m 16) i
    · rfl
    · obtain ⟨j, h1, _, h3⟩ := bits_mem.1 (inL_iff.1 e2)
      obtain rfl : i = j := by omega
      rw [e] at h3; cases h3
  · exact inL_iff.2 (bits_mem.2 ⟨i, rfl, by have := test_lt hm e; omega, e⟩)
theorem enL_bits {b : BookD} (hv : VBook b) {m : Nat} (hm : m < 2 ^ b.cons.length) : EnL b (bitsL m 16) ↔ EnoughS b (fun i => m.testBit i) := by
  have hl := hv.len
  exact ⟨fun h => enough_congr hv (fun i _ => bits_in hm (by omega) i) h, fun h => enough_congr hv (fun i _ => (bits_in hm (by omega) i).symm) h⟩
end Go.Proofs.Ytilhflfbbfeakaa
end
section
namespace Go.Proofs.Ytilhflfbbfeakaa
open Go Go.RowKit Go.Tl
set_option linter.unusedVariables false
set_option linter.unusedSimpArgs false
set_option maxRecDepth 100000
set_option maxHeartbeats 4000000
attribute [local irreducible] AWP AWL AOp PV LV AWT AWE
theorem intRows_range (l : List Int) : ((List.range l.length).map fun k => List.map AV.ofTr [Tr.sc (.int .i64 (l.getD k 0))]) = l.map intRow := by
  refine List.ext_getElem (by simp) fun k h1 h2 => ?_
  simp at h1 h2
  simp [List.getD_eq_getElem?_getD, h1, AV.ofTr, intRow]
section
variable {b : BookD} {l : List Int} {g3 g4 : Nat} {cp c1 : Bool} {many ab : Int}
end
end Go.Proofs.Ytilhflfbbfeakaa
end
section
section
namespace Go.Proofs.Ytilhflfbbfeakaa
open Go Go.RowKit Go.Tl
set_option linter.unusedVariables false
set_option linter.unusedSimpArgs false
set_option maxRecDepth 100000
set_option maxHeartbeats 4000000
structure RingD where
  cons : List Int
  amount : Int
  deriving Inhabited, DecidableEq
/-- the contract at a place of a ring -/
def cAt (b : BookD) (r : RingD) (k : Nat) : ConD := b.cons.getD (r.cons.getD k 0).toNat default
def okAt (b : BookD) (r : RingD) (k : Nat) : Prop := 0 ≤ r.cons.getD k 0 ∧ r.cons.getD k 0 ≤ b.cons.length - 1
def isRing (b : BookD) (r : RingD) : Prop := 2 ≤ r.cons.length ∧ (1 ≤ r.amount ∧ r.amount ≤ 100) ∧ (∀ k, k < r.cons.length → okAt b r k) ∧
  (∀ k, k < r.cons.length → (cAt b r k).to = (cAt b r ((k + 1) % r.cons.length)).frm) ∧ ∀ k m, k < r.cons.length → m < k → (cAt b r m).frm ≠ (cAt b r k).frm
noncomputable instance (b : BookD) (r : RingD) : Decidable (isRing b r) := Classical.propDecidable _
noncomputable def ringB (b : BookD) (r : RingD) : Bool := decide (isRing b r)
attribute [local irreducible] AWP AWL AOp PV LV AWT AWE
section
variable {b : BookD} {r : RingD} {cp c1 : Bool} {g2 g3 g8 gm k q j jn n ji : Nat} {iv nv : Int} {l : List Int} {u : AV} {c : ConD}
end
end Go.Proofs.Ytilhflfbbfeakaa
end
section
namespace Go.Proofs.Ytilhflfbbfeakaa
open Go Go.RowKit Go.Tl
set_option linter.unusedVariables false
set_option linter.unusedSimpArgs false
set_option maxRecDepth 100000
set_option maxHeartbeats 4000000
attribute [local irreducible] AWP AWL AOp PV LV AWT AWE
end Go.Proofs.Ytilhflfbbfeakaa
end
section
namespace Go.Proofs.Ytilhflfbbfeakaa
open Go Go.RowKit Go.Tl
set_option linter.unusedVariables false
set_option linter.unusedSimpArgs false
set_option maxRecDepth 100000
set_option maxHeartbeats 4000000
/-- what the first contracts of a ring add to one -/
def ringN (r : RingD) : Nat → Nat → Int
  | 0, h => 0
  | k + 1, h => ringN r k h + (if r.cons.getD k 0 = (h : Int) then r.amount else 0)
/-- what the first rings make up -/
def madeN (rs : List RingD) : Nat → Nat → Int
  | 0, h => 0
  | i + 1, h => madeN rs i h + ringN (rs.getD i default) (rs.getD i default).cons.length h
def madeL (b : BookD) (rs : List RingD) : List Int := (List.range b.cons.length).map (madeN rs rs.length)
attribute [local irreducible] AWP AWL AOp PV LV AWT AWE
section
variable {r : RingD} {rs : List RingD} {cp c1 c2 : Bool} {g2 g9 ga n k j i : Nat} {F G : Nat → Int} {x : Ent} {u1 u2 u3 u4 u5 u6 u7 u8 : AV}
end
end Go.Proofs.Ytilhflfbbfeakaa
end
section
namespace Go.Proofs.Ytilhflfbbfeakaa
open Go Go.RowKit Go.Tl
set_option linter.unusedVariables false
set_option linter.unusedSimpArgs false
set_option maxRecDepth 100000
set_option maxHeartbeats 4000000
attribute [local irreducible] AWP AWL AOp PV LV AWT AWE
/-- the rings and their total are proof -/
noncomputable def provR (b : BookD) (rs : List RingD) (total : Int) : Bool := decide (faultN b = 0) && (rs.all (ringB b) && (listedB b (madeL b rs) && decide (total ≤ sumI (madeL b rs))))
/-- what Made returns -/
noncomputable def madeA (b : BookD) (rs : List RingD) : AV := if rs.all (ringB b) = true then .tup [.t (intsT true (madeL b rs)), boolA (listedB b (madeL b rs))] else .tup [noneA, boolA false]
section
variable {rs : List RingD} {cp c1 : Bool} {k : Nat} {a : Option Addr} {c : Nat} {rows : List (List AV)}
end
end Go.Proofs.Ytilhflfbbfeakaa
end
end
section
section
namespace Go.Tl
open Go Go.RowKit
set_option linter.unusedSimpArgs false
set_option linter.unusedVariables false
end Go.Tl
namespace Go.Proofs.Ytilhflfbbfeakaa
open Go Go.RowKit Go.Tl
set_option linter.unusedVariables false
set_option linter.unusedSimpArgs false
set_option maxRecDepth 100000
set_option maxHeartbeats 4000000
attribute [local irreducible] AWP AWL AOp PV LV AWT AWE
end Go.Proofs.Ytilhflfbbfeakaa
end
section
namespace Go.Proofs.Ytilhflfbbfeakaa
open Go Go.RowKit Go.Tl
set_option linter.unusedVariables false
set_option linter.unusedSimpArgs false
set_option maxRecDepth 100000
set_option maxHeartbeats 4000000
/-- a path -/
structure PathI (b : BookD) (f : Nat → Int) (first : Nat) (P : List Int) (a : Int) : Prop where
  ok : ∀ k, k < P.length → okAt b ⟨P, 1⟩ k
  pos : ∀ k, k < P.length → 0 < f (P.getD k 0).toNat
  next : ∀ k, k + 1 < P.length → (cAt b ⟨P, 1⟩ k).to = (cAt b ⟨P, 1⟩ (k + 1)).frm
  ne : ∀ k m, k < P.length → m < k → (cAt b ⟨P, 1⟩ m).frm ≠ (cAt b ⟨P, 1⟩ k).frm
  at0 : P = [] → a = (b.cons.getD first default).frm
  at1 : ∀ k, k + 1 = P.length → a = (cAt b ⟨P, 1⟩ k).to
attribute [local irreducible] AWP AWL AOp PV LV AWT AWE
end Go.Proofs.Ytilhflfbbfeakaa
end
end
section
section
namespace Go.Tl
open Go Go.RowKit
end Go.Tl
namespace Go.Proofs.Ytilhflfbbfeakaa
open Go Go.RowKit Go.Tl
set_option linter.unusedVariables false
set_option linter.unusedSimpArgs false
set_option maxRecDepth 100000
set_option maxHeartbeats 4000000
/-- how many are above 0 -/
def posN (f : Nat → Int) : Nat → Nat
  | 0 => 0
  | k + 1 => posN f k + if 0 < f k then 1 else 0
theorem pos_le {f g : Nat → Int} : ∀ k, (∀ i, i < k → g i ≤ f i) → posN g k ≤ posN f k
  | 0, _ => Nat.le_refl _
  | k + 1, h => by
    have ih := pos_le k (fun i hi => h i (by omega))
    have := h k (Nat.lt_succ_self _)
    simp only [posN]
    split <;> split <;> omega
theorem pos_lt {f g : Nat → Int} {j : Nat} (hf : 0 < f j) (hg : g j ≤ 0) : ∀ k, j < k → (∀ i, i < k → g i ≤ f i) → posN g k + 1 ≤ posN f k
  | 0, h, _ => absurd h (Nat.not_lt_zero _)
  | k + 1, hj, h => by
    simp only [posN]
    by_cases e : j = k
    · subst e
      have := pos_le j (fun i hi => h i (by omega))
      rw [if_neg (by omega), if_pos hf]
      omega
    · have ih := pos_lt hf hg k (by omega) (fun i hi => h i (by omega))
      have := h k (Nat.lt_succ_self _)
      split <;> split <;> omega
attribute [local irreducible] AWP AWL AOp PV LV AWT AWE
section
variable {f g : Nat → Int} {n j g10 ga k : Nat} {x : Int} {u1 u9 u7 u50 u51 u52 u35 u36 u37 v0 : AV} {rest : List Ent}
end
end Go.Proofs.Ytilhflfbbfeakaa
end
section
namespace Go.Proofs.Ytilhflfbbfeakaa
open Go Go.RowKit Go.Tl
set_option linter.unusedVariables false
set_option linter.unusedSimpArgs false
set_option maxRecDepth 100000
set_option maxHeartbeats 4000000
attribute [local irreducible] AWP AWL AOp PV LV AWT AWE
/-- rings that make up a greatest setting off -/
structure RingsOk (b : BookD) (rs : List RingD) (f : Nat → Int) : Prop where
  off : OffF b (numF b) f
  stuck : StuckA b f
  ring : ∀ j, j < rs.length → isRing b (rs.getD j default)
  made : ∀ h, h < b.cons.length → madeN rs rs.length h = f h
  len : rs.length ≤ b.cons.length
end Go.Proofs.Ytilhflfbbfeakaa
end
end
section
namespace Go.Proofs.Ytilhflfbbfeakaa
open Go Go.RowKit Go.Tl
set_option linter.unusedVariables false
set_option linter.unusedSimpArgs false
set_option maxRecDepth 100000
set_option maxHeartbeats 4000000
def bRows (Z : Nat → Bool) (n : Nat) : List (List AV) := (List.range n).map fun v => [boolA (Z v)]
theorem bRows_len (Z : Nat → Bool) (n : Nat) : (bRows Z n).length = n := by simp [bRows]
theorem bRows_at {Z : Nat → Bool} {n v : Nat} (h : v < n) : ((bRows Z n).getD v [])[0]? = some (boolA (Z v)) := by
  simp [bRows, List.getD_eq_getElem?_getD, h]
theorem bRows_set {Z Z' : Nat → Bool} {n v : Nat} {x : Bool} (h : v < n) (hZ : ∀ q, q < n → Z' q = if q = v then x else Z q) : (bRows Z n).set v (spA ((bRows Z n).getD v []) 0 [boolA x]) = bRows Z' n := by
  refine List.ext_getElem (by simp [bRows]) fun i h1 h2 => ?_
  simp [bRows] at h1 h2
  have hi := hZ i h2
  by_cases c : v = i
  · subst c
    rw [if_pos rfl] at hi
    simp [bRows, List.getD_eq_getElem?_getD, h, spA, hi]
  · rw [if_neg (fun e => c e.symm)] at hi
    simp [bRows, List.getElem_set, c, hi]
/-- how many houses have not been seen -/
def unF (Z : Nat → Bool) (v : Nat) : Int := if Z v then 0 else 1
/-- what a walk from a house comes to: nothing, and then nothing leads out of what it saw; or something is brought -/
inductive BrPost (b : BookD) (cap : Nat → Int) (at' : Nat) (most : Int) (Z : Nat → Bool) (nd f : Nat → Int) : Int → (Nat → Bool) → (Nat → Int) → (Nat → Int) → Prop
  | none {Z' : Nat → Bool} (hsub : ∀ v, Z v = true → Z' v = true) (hat : Z' at' = true)
      (hcl : ∀ v, v < b.houses.toNat → Z' v = true → Z v = false → nd v ≤ 0 ∧ ∀ a : Arc, a.1 < b.cons.length → 0 < fL cap f a → aF b a = v → Z' (aT b a) = true) : BrPost b cap at' most Z nd f 0 Z' nd f
  | some {n : Int} {Z' : Nat → Bool} {nd' f' : Nat → Int} (hn : 1 ≤ n ∧ n ≤ most) (hbd : ∀ i, i < b.cons.length → 0 ≤ f' i ∧ f' i ≤ cap i)
      (hsum : ∀ v, nd' v + accN b.cons f' b.cons.length v = nd v + accN b.cons f b.cons.length v - if at' = v then n else 0)
      (hnd : ∀ v, nd' v ≤ nd v ∧ (nd' v = nd v ∨ 0 ≤ nd' v))
      (hkeep : ∀ i, i < b.cons.length → (Z (b.cons.getD i default).frm.toNat = true ∨ Z (b.cons.getD i default).to.toNat = true) → f' i = f i) : BrPost b cap at' most Z nd f n Z' nd' f'
/-- what has been seen before some arcs of a house were gone along -/
structure BrMid (b : BookD) (cap : Nat → Int) (at' : Nat) (Z : Nat → Bool) (nd f : Nat → Int) (l : List Arc) (Z' : Nat → Bool) : Prop where
  sub : ∀ v, Z v = true → Z' v = true
  hat : Z' at' = true
  cl : ∀ v, v < b.houses.toNat → Z' v = true → Z v = false → v ≠ at' → nd v ≤ 0 ∧ ∀ a : Arc, a.1 < b.cons.length → 0 < fL cap f a → aF b a = v → Z' (aT b a) = true
  arc : ∀ a ∈ l, aF b a = at' → Z' (aT b a) = true
theorem mid_nil {b : BookD} {cap : Nat → Int} {at' : Nat} {Z : Nat → Bool} {nd f : Nat → Int} : BrMid b cap at' Z nd f [] (fun v => if v = at' then true else Z v) := by
  refine ⟨fun v h => ?_, if_pos rfl, fun v _ h1 h2 h3 => ?_, fun a ha => by cases ha⟩
  · show (if v = at' then true else Z v) = true
    split
    · rfl
    · exact h
  · have h1' : (if v = at' then true else Z v) = true := h1
    rw [if_neg h3, h2] at h1'
    cases h1'
theorem mid_skip {b : BookD} {cap : Nat → Int} {at' : Nat} {Z Z' : Nat → Bool} {nd f : Nat → Int} {l : List Arc} {a : Arc} (h : BrMid b cap at' Z nd f l Z') (ha : aF b a = at' → Z' (aT b a) = true) : BrMid b cap at' Z nd f (l ++ [a]) Z' :=
  ⟨h.sub, h.hat, h.cl, fun a' h' => by
    rcases List.mem_append.1 h' with h' | h'
    · exact h.arc a' h'
    · rw [List.mem_singleton.1 h']; exact ha⟩
theorem mid_none {b : BookD} {cap : Nat → Int} {at' : Nat} {Z Z' Z'' : Nat → Bool} {nd f : Nat → Int} {l : List Arc} {a : Arc} (h : BrMid b cap at' Z nd f l Z') (hsub : ∀ v, Z' v = true → Z'' v = true) (hat : Z'' (aT b a) = true)
    (hcl : ∀ v, v < b.houses.toNat → Z'' v = true → Z' v = false → nd v ≤ 0 ∧ ∀ a : Arc, a.1 < b.cons.length → 0 < fL cap f a → aF b a = v → Z'' (aT b a) = true) : BrMid b cap at' Z nd f (l ++ [a]) Z'' := by
  refine ⟨fun v hv => hsub v (h.sub v hv), hsub _ h.hat, fun v hv h1 h2 h3 => ?_, fun a' h' e => ?_⟩
  · cases c : Z' v
    · exact hcl v hv h1 c
    · have := h.cl v hv c h2 h3
      exact ⟨this.1, fun a h4 h5 h6 => hsub _ (this.2 a h4 h5 h6)⟩
  · rcases List.mem_append.1 h' with h' | h'
    · exact hsub _ (h.arc a' h' e)
    · rw [List.mem_singleton.1 h']; exact hat
theorem mid_end {b : BookD} {cap : Nat → Int} {at' : Nat} {most : Int} {Z Z' : Nat → Bool} {nd f : Nat → Int} (h : BrMid b cap at' Z nd f (arcsL (fL cap f) b.cons.length) Z') (hnd : nd at' ≤ 0) : BrPost b cap at' most Z nd f 0 Z' nd f :=
  .none h.sub h.hat fun v hv h1 h2 => by
    by_cases c : v = at'
    · subst c
      exact ⟨hnd, fun a h3 h4 h5 => h.arc a (mem_arcs.2 ⟨h3, h4⟩) h5⟩
    · exact h.cl v hv h1 h2 c
/-- a house that needs something gets it -/
theorem post_here {b : BookD} {cap : Nat → Int} {at' : Nat} {most n : Int} {Z Z' : Nat → Bool} {nd f : Nat → Int} (hbd : ∀ i, i < b.cons.length → 0 ≤ f i ∧ f i ≤ cap i) (hm : 1 ≤ most) (hn : 0 < nd at') (e : n = min most (nd at')) :
    BrPost b cap at' most Z nd f n Z' (fun q => if q = at' then nd at' - n else nd q) f := by
  refine .some (by omega) hbd (fun v => ?_) (fun v => ?_) (fun i _ _ => rfl)
  · show (if v = at' then nd at' - n else nd v) + _ = _
    by_cases c : v = at'
    · subst c; rw [if_pos rfl, if_pos rfl]; omega
    · rw [if_neg c, if_neg (fun h => c h.symm)]; omega
  · show (if v = at' then nd at' - n else nd v) ≤ _ ∧ ((if v = at' then nd at' - n else nd v) = _ ∨ 0 ≤ (if v = at' then nd at' - n else nd v))
    by_cases c : v = at'
    · subst c; rw [if_pos rfl]; omega
    · rw [if_neg c]; omega
/-- something that an arc's end brought is brought along it -/
theorem post_push {b : BookD} (hv : VBook b) {cap : Nat → Int} {at' : Nat} {most n : Int} {Z Z' Z2 Z3 : Nat → Bool} {nd f nd' f' : Nat → Int} {a : Arc} (ha : a.1 < b.cons.length) (hF : aF b a = at') (hsub : ∀ v, Z v = true → Z' v = true) (hat : Z' at' = true) (hZ : Z at' = false) (hto : Z' (aT b a) = false)
    (hn : 1 ≤ n) (h : BrPost b cap (aT b a) (min most (fL cap f a)) Z' nd f n Z2 nd' f') : BrPost b cap at' most Z nd f n Z3 nd' (psh f' a n) := by
  cases h with
  | none => omega
  | some hn' hbd hsum hnd hkeep =>
    have hfr := hv.frm a.1 ha
    have hto' := hv.to a.1 ha
    have hends : (b.cons.getD a.1 default).frm.toNat = at' ∧ (b.cons.getD a.1 default).to.toNat = aT b a ∨ (b.cons.getD a.1 default).to.toNat = at' ∧ (b.cons.getD a.1 default).frm.toNat = aT b a := by
      unfold aF at hF
      unfold aT
      cases h2 : a.2
      · rw [h2] at hF; exact .inl ⟨hF, rfl⟩
      · rw [h2] at hF; exact .inr ⟨hF, rfl⟩
    have hk : f' a.1 = f a.1 := hkeep a.1 ha (by rcases hends with ⟨e, _⟩ | ⟨e, _⟩ <;> rw [e] <;> simp [hat])
    refine .some ⟨hn, by omega⟩ (fun i hi => ?_) (fun v => ?_) hnd (fun i hi hz => ?_)
    · have h1 := hbd i hi
      unfold psh
      by_cases c : i = a.1
      · subst c
        rw [if_pos rfl]
        have h2 : n ≤ fL cap f a := by omega
        unfold fL at h2
        cases h3 : a.2
        · rw [h3] at h2
          have h4 : n ≤ cap a.1 - f a.1 := h2
          simp; omega
        · rw [h3] at h2
          have h4 : n ≤ f a.1 := h2
          simp; omega
      · rw [if_neg c]; exact h1
    · rw [psh_acc hv _ ha, hF]
      have := hsum v
      omega
    · have hne : i ≠ a.1 := fun e => by
        subst e
        have hzat : Z (aT b a) = false := by
          cases c : Z (aT b a)
          · rfl
          · rw [hsub _ c] at hto; cases hto
        rcases hends with ⟨e1, e2⟩ | ⟨e1, e2⟩ <;> rw [e1, e2, hZ, hzat] at hz <;> simp at hz
      unfold psh
      rw [if_neg hne]
      exact hkeep i hi (by rcases hz with h | h; exact .inl (hsub _ h); exact .inr (hsub _ h))
theorem fL_bd2 {b : BookD} {cap off : Nat → Int} (hcap : ∀ i, i < b.cons.length → cap i ≤ 100) (h : ∀ i, i < b.cons.length → 0 ≤ off i ∧ off i ≤ cap i) {a : Arc} (ha : a.1 < b.cons.length) : 0 ≤ fL cap off a ∧ fL cap off a ≤ 100 := by
  have h1 := h a.1 ha
  have h2 := hcap a.1 ha
  unfold fL
  split <;> omega
attribute [local irreducible] AWP AWL AOp PV LV AWT AWE
section
variable {b : BookD} {cp : Bool} {g3 g5 g7 g8 g10 g11 ga gmo gr gs gn gw gm gb at' H : Nat} {nd : Nat → Int} {F F1 : Arc → Int} {a : Arc} {rest : List Ent} {u2 u8 : AV} {x most : Int} {ro : Option Nat}
theorem de_3 (ht : at' < H) (hH : H ≤ 6) {ops : Array Oper} (h : regF Try.f110 3 = some ops) :
    AWP Try.prog Try.f110.ntmps none (.region 3 ops true) (cutQ (fun s h => s = [(9, intA (min most (nd at'))), (3, .v (ptrV g5)), (6, .v (ptrV ga)), (8, .v (ptrV gr))] ∧ h = .cl ga 3 [intA at'] :: .cl gmo 3 [intA most] :: .cl g5 27 [.v (.slice (some ⟨gn, 0, none⟩) H H)] :: .rw (.slice (some ⟨gn, 0, none⟩) H H) 3 1 (fRows nd H) :: rest))
      [(3, .v (ptrV g5)), (6, .v (ptrV ga)), (7, .v (ptrV gmo)), (8, .v (ptrV gr))] (.cl ga 3 [intA at'] :: .cl gmo 3 [intA most] :: .cl g5 27 [.v (.slice (some ⟨gn, 0, none⟩) H H)] :: .rw (.slice (some ⟨gn, 0, none⟩) H H) 3 1 (fRows nd H) :: rest) := by
  cases h
  have r1 : ((fRows nd H).getD at' [])[0]? = some (intA (nd at')) := fRows_at ht
  have r2 := fRows_len nd H
  refine awp_tree T0 [(0, 1), (1, 1), (2, 1), (3, 0), (4, 1), (5, 0), (6, 0)] (.op 0 1 (.op 1 1 (.op 2 1 (.op 3 0 (.op 4 1 (.op 5 0 (.op 6 0 .stop))))))) [.cl ga _ _, .cl gmo _ _, .cl g5 _ _, .rw _ _ _ _] rfl (by kernel_rfl) (by solve | repeat' constructor) ?_
  refine awt_lo rfl (wt_none rfl) (lv_cl1 T0 rfl rfl rfl (by solve | repeat' constructor) (by first | rfl | assumption)) rfl rfl rfl ?_
  refine awt_lo rfl (wt_none rfl) (lv_cl1 T0 rfl rfl rfl (by solve | repeat' constructor) (by first | rfl | assumption)) rfl rfl rfl ?_
  refine awt_lo rfl (wt_none rfl) (lv_cl1 T0 rfl rfl rfl (by solve | repeat' constructor) (by first | rfl | assumption)) rfl rfl rfl ?_
  refine awt_po rfl (wt_none rfl) (pv_ix_own T0 rfl rfl rfl rfl (by omega) (by first | exact (rfl : Int.toNat 0 = 0) | exact Int.toNat_natCast _ | rfl)) rfl rfl ?_
  refine awt_lo rfl (wt_none rfl) (lv_rp T0 rfl rfl rfl (by solve | repeat' constructor) (by first | omega | (simp; omega)) (by omega) (by first | assumption | rfl)) rfl rfl rfl ?_
  refine awt_po rfl (wt_none rfl) (pv_min2 rfl rfl rfl) rfl rfl ?_
  refine awt_po rfl (wt_none rfl) (pv_assign rfl rfl) rfl rfl ?_
  refine awt_end ?_
  exact cut_n ⟨rfl, rfl⟩ (by first | ((repeat' (first | exact True.intro | refine ⟨rfl, ?_⟩)); all_goals fail) | fail) (SubH.refl _)
theorem de_12 (b1 : -1000000 ≤ F a ∧ F a ≤ 1000000) (b2 : -1000000 ≤ x ∧ x ≤ 2000000) (hF : ∀ q, F1 q = if q = a then F a - x else F q) {ops : Array Oper} (h : regG Try.f110 12 = some ops) :
    AWP Try.prog Try.f110.ntmps ro (.region 12 ops true) (cutQ (fun s h => s = [(4, .v (ptrV g3)), (8, u8), (10, .v (ptrV g10)), (12, intA x)] ∧ h = .cl g10 118 [intA (a.1 : Nat), boolA a.2] :: .cl g3 96 [.v (ptrV gw)] :: workE gw gm b cp :: leftM gm F1 :: rest))
      [(4, .v (ptrV g3)), (8, u8), (10, .v (ptrV g10)), (12, intA x)] (.cl g10 118 [intA (a.1 : Nat), boolA a.2] :: .cl g3 96 [.v (ptrV gw)] :: workE gw gm b cp :: leftM gm F :: rest) := by
  cases h
  have hup : updF (fun q => intA (F q)) a (intA (F a - x)) = fun q => intA (F1 q) := by
    funext q
    unfold updF
    rw [hF]
    split <;> rfl
  refine awp_tree T0 [(0, 1), (1, 0), (2, 0), (3, 1), (4, 1), (6, 0), (5, 3), (7, 0), (8, 3), (9, 0), (10, 3)] (.op 0 1 (.op 1 0 (.op 2 0 (.op 3 1 (.op 4 1 (.op 6 0 (.fork 5 (.op 7 0 (.op 8 3 (.op 9 0 (.op 10 3 .stop)))) 8 (.op 9 0 (.op 5 3 (.op 7 0 (.op 10 3 .stop))))))))))) [.cl g10 _ _, .cl g3 _ _, .cl gw _ _] rfl (by kernel_rfl) (by solve | repeat' constructor) ?_
  refine awt_lo rfl (wt_none rfl) (lv_cl1 T0 rfl rfl rfl (by solve | repeat' constructor) (by first | rfl | assumption)) rfl rfl rfl ?_
  refine awt_po rfl (wt_none rfl) (pv_nilCheck rfl rfl) rfl rfl ?_
  refine awt_po rfl (wt_none rfl) (pv_fa T0 rfl rfl rfl (by simp; rfl)) rfl rfl ?_
  refine awt_lo rfl (wt_none rfl) (lv_cl1 T0 rfl rfl rfl (by solve | repeat' constructor) (by first | rfl | assumption)) rfl rfl rfl ?_
  refine awt_lo rfl (wt_none rfl) (lv_cla T0 rfl rfl rfl (by solve | repeat' constructor) rfl) rfl rfl rfl ?_
  refine awt_po rfl (wt_none rfl) (pv_move rfl rfl) rfl rfl ?_
  refine awt_fork ?_ ?_
  · skip
    refine awt_h (hm := []) rfl (wt_none rfl) (by solve | repeat' constructor) rfl (aop_lv (lv_lookupF Ma (k := a) rfl rfl rfl rfl (by solve | repeat' constructor) rfl) rfl (blt_lt rfl) ?_)
    refine awt_n1 rfl (wt_none rfl) (pv_sub rfl rfl rfl (by first | assumption | exact wr64 (by omega))) rfl rfl rfl ?_
    refine awt_s (md := fun _ => True) rfl (wt_none rfl) (aop_mapEntryF Ma (k := a) rfl rfl rfl rfl rfl rfl (fun n => (by solve | repeat' constructor)) trivial (fun n => ?_))
    refine awe_p rfl (wt_none rfl) (pv_extract rfl rfl rfl) rfl rfl ?_
    refine awe_s (md := fun _ => True) rfl (wt_none rfl) (aop_entryStoreF Ma rfl rfl rfl rfl rfl (by solve | repeat' constructor) hup trivial ?_)
    refine awe_end ?_
    exact cut_n ⟨rfl, rfl⟩ (by first | ((repeat' (first | exact True.intro | refine ⟨rfl, ?_⟩)); all_goals fail) | fail) (SubH.refl _)
  · skip
    refine awt_h (hm := [leftM gm F]) rfl (wt_none rfl) (by solve | repeat' constructor) rfl (aop_mapEntryF Ma (k := a) rfl rfl rfl rfl rfl rfl (fun n => (by solve | repeat' constructor)) ⟨_, List.mem_singleton.2 rfl, rfl⟩ (fun n => ?_))
    refine awt_n1 rfl (wt_none rfl) (pv_extract rfl rfl rfl) rfl rfl rfl ?_
    refine awt_s (md := fun _ => True) rfl (wt_none rfl) (aop_lv (lv_lookupF Ma (k := a) rfl rfl rfl rfl (by solve | repeat' constructor) rfl) rfl (blt_lt rfl) ?_)
    refine awe_p rfl (wt_none rfl) (pv_sub rfl rfl rfl (by first | assumption | exact wr64 (by omega))) rfl rfl ?_
    refine awe_s (md := fun _ => True) rfl (wt_none rfl) (aop_entryStoreF Ma rfl rfl rfl rfl rfl (by solve | repeat' constructor) hup trivial ?_)
    refine awe_end ?_
    exact cut_n ⟨rfl, rfl⟩ (by first | ((repeat' (first | exact True.intro | refine ⟨rfl, ?_⟩)); all_goals fail) | fail) (SubH.refl _)
theorem de_13 (b1 : -1000000 ≤ F (a.1, !a.2) ∧ F (a.1, !a.2) ≤ 1000000) (b2 : -1000000 ≤ x ∧ x ≤ 2000000) (hF : ∀ q, F1 q = if q = (a.1, !a.2) then F (a.1, !a.2) + x else F q) {ops : Array Oper} (h : regG Try.f110 13 = some ops) :
    AWP Try.prog Try.f110.ntmps ro (.region 13 ops true) (cutQ (fun s h => s = [(8, u8), (12, intA x)] ∧ h = .cl g10 118 [intA (a.1 : Nat), boolA a.2] :: .cl g3 96 [.v (ptrV gw)] :: workE gw gm b cp :: leftM gm F1 :: rest))
      [(4, .v (ptrV g3)), (8, u8), (10, .v (ptrV g10)), (12, intA x)] (.cl g10 118 [intA (a.1 : Nat), boolA a.2] :: .cl g3 96 [.v (ptrV gw)] :: workE gw gm b cp :: leftM gm F :: rest) := by
  cases h
  have hup : updF (fun q => intA (F q)) (a.1, !a.2) (intA (F (a.1, !a.2) + x)) = fun q => intA (F1 q) := by
    funext q
    unfold updF
    rw [hF]
    split <;> rfl
  refine awp_tree T0 [(0, 1), (1, 0), (2, 0), (3, 1), (4, 0), (5, 1), (6, 0), (7, 1), (8, 0), (9, 0), (11, 0), (10, 3), (12, 0), (13, 3), (14, 0), (15, 3)] (.op 0 1 (.op 1 0 (.op 2 0 (.op 3 1 (.op 4 0 (.op 5 1 (.op 6 0 (.op 7 1 (.op 8 0 (.op 9 0 (.op 11 0 (.fork 10 (.op 12 0 (.op 13 3 (.op 14 0 (.op 15 3 .stop)))) 13 (.op 14 0 (.op 10 3 (.op 12 0 (.op 15 3 .stop)))))))))))))))) [.cl g10 _ _, .cl g3 _ _, .cl gw _ _] rfl (by kernel_rfl) (by solve | repeat' constructor) ?_
  refine awt_lo rfl (wt_none rfl) (lv_cl1 T0 rfl rfl rfl (by solve | repeat' constructor) (by first | rfl | assumption)) rfl rfl rfl ?_
  refine awt_po rfl (wt_none rfl) (pv_nilCheck rfl rfl) rfl rfl ?_
  refine awt_po rfl (wt_none rfl) (pv_fa T0 rfl rfl rfl (by simp; rfl)) rfl rfl ?_
  refine awt_lo rfl (wt_none rfl) (lv_cl1 T0 rfl rfl rfl (by solve | repeat' constructor) (by first | rfl | assumption)) rfl rfl rfl ?_
  refine awt_po rfl (wt_none rfl) (pv_fa T0 rfl rfl rfl (by simp; rfl)) rfl rfl ?_
  refine awt_lo rfl (wt_none rfl) (lv_cl1 T0 rfl rfl rfl (by solve | repeat' constructor) (by first | rfl | assumption)) rfl rfl rfl ?_
  refine awt_po rfl (wt_none rfl) (pv_fa T0 rfl rfl rfl (by simp; rfl)) rfl rfl ?_
  refine awt_lo rfl (wt_none rfl) (lv_cl1 T0 rfl rfl rfl (by solve | repeat' constructor) (by first | rfl | assumption)) rfl rfl rfl ?_
  refine awt_po rfl (wt_none rfl) (pv_not rfl rfl) rfl rfl ?_
  refine awt_po rfl (wt_none rfl) (pv_build T0 rfl rfl rfl (by simp only [Value.cells, List.toList_toArray, List.map_cons, List.map_nil]; rfl) (by first | ((repeat' (first | exact BParts.nil | apply BParts.cons | rfl)); all_goals fail) | fail) (by first | ((repeat' (first | exact FillA.nil | exact Sp.done | apply FillA.cons | apply Sp.put | apply Sp.skip | (simp only [cellsA]; rfl) | rfl)); all_goals fail) | fail)) rfl rfl ?_
  refine awt_po rfl (wt_none rfl) (pv_move rfl rfl) rfl rfl ?_
  refine awt_fork ?_ ?_
  · skip
    refine awt_h (hm := []) rfl (wt_none rfl) (by solve | repeat' constructor) rfl (aop_lv (lv_lookupF Ma (k := (a.1, !a.2)) rfl rfl rfl rfl (by solve | repeat' constructor) rfl) rfl (blt_lt rfl) ?_)
    refine awt_n1 rfl (wt_none rfl) (pv_add rfl rfl rfl (by first | assumption | exact wr64 (by omega))) rfl rfl rfl ?_
    refine awt_s (md := fun _ => True) rfl (wt_none rfl) (aop_mapEntryF Ma (k := (a.1, !a.2)) rfl rfl rfl rfl rfl rfl (fun n => (by solve | repeat' constructor)) trivial (fun n => ?_))
    refine awe_p rfl (wt_none rfl) (pv_extract rfl rfl rfl) rfl rfl ?_
    refine awe_s (md := fun _ => True) rfl (wt_none rfl) (aop_entryStoreF Ma rfl rfl rfl rfl rfl (by solve | repeat' constructor) hup trivial ?_)
    refine awe_end ?_
    exact cut_n ⟨rfl, rfl⟩ (by first | ((repeat' (first | exact True.intro | refine ⟨rfl, ?_⟩)); all_goals fail) | fail) (SubH.refl _)
  · skip
    refine awt_h (hm := [leftM gm F]) rfl (wt_none rfl) (by solve | repeat' constructor) rfl (aop_mapEntryF Ma (k := (a.1, !a.2)) rfl rfl rfl rfl rfl rfl (fun n => (by solve | repeat' constructor)) ⟨_, List.mem_singleton.2 rfl, rfl⟩ (fun n => ?_))
    refine awt_n1 rfl (wt_none rfl) (pv_extract rfl rfl rfl) rfl rfl rfl ?_
    refine awt_s (md := fun _ => True) rfl (wt_none rfl) (aop_lv (lv_lookupF Ma (k := (a.1, !a.2)) rfl rfl rfl rfl (by solve | repeat' constructor) rfl) rfl (blt_lt rfl) ?_)
    refine awe_p rfl (wt_none rfl) (pv_add rfl rfl rfl (by first | assumption | exact wr64 (by omega))) rfl rfl ?_
    refine awe_s (md := fun _ => True) rfl (wt_none rfl) (aop_entryStoreF Ma rfl rfl rfl rfl rfl (by solve | repeat' constructor) hup trivial ?_)
    refine awe_end ?_
    exact cut_n ⟨rfl, rfl⟩ (by first | ((repeat' (first | exact True.intro | refine ⟨rfl, ?_⟩)); all_goals fail) | fail) (SubH.refl _)
/-- the memory of a walk -/
abbrev brE (g3 g5 g7 g8 gs gn gw gm : Nat) (b : BookD) (cp : Bool) (H : Nat) (Z : Nat → Bool) (nd : Nat → Int) (F : Arc → Int) : List Ent :=
  [.cl g7 132 [.v (.slice (some ⟨gs, 0, none⟩) H H)], .rw (.slice (some ⟨gs, 0, none⟩) H H) 4 1 (bRows Z H), .cl g5 27 [.v (.slice (some ⟨gn, 0, none⟩) H H)], .rw (.slice (some ⟨gn, 0, none⟩) H H) 3 1 (fRows nd H), .cl g3 96 [.v (ptrV gw)], workE gw gm b cp, leftM gm F, .cl g8 133 [.v (.func (.func 110) #[] #[ptrV g7, ptrV g5, ptrV g3, ptrV g8])]]
theorem de_10 {Z : Nat → Bool} {R : Int → (Nat → Bool) → (Nat → Int) → (Arc → Int) → Prop} (hC : ACall Try.prog 110 [intA (aT b a : Nat), intA (min most (F a)), .v (ptrV g7), .v (ptrV g5), .v (ptrV g3), .v (ptrV g8)] (brE g3 g5 g7 g8 gs gn gw gm b cp H Z nd F) (fun r h' => ∃ n Z' nd' F', R n Z' nd' F' ∧ r = intA n ∧ h' = brE g3 g5 g7 g8 gs gn gw gm b cp H Z' nd' F'))
    {ops : Array Oper} (h : regG Try.f110 10 = some ops) :
    AWP Try.prog Try.f110.ntmps ro (.region 10 ops true) (cutQ (fun s h => ∃ n Z' nd' F', R n Z' nd' F' ∧ s = [(12, intA n), (2, u2), (4, .v (ptrV g3)), (5, .v (ptrV g8)), (6, .v (ptrV ga)), (7, .v (ptrV gmo)), (8, u8), (10, .v (ptrV g10)), (11, .v (ptrV g11))] ∧ h = brE g3 g5 g7 g8 gs gn gw gm b cp H Z' nd' F' ++ [.cl g10 118 [intA (a.1 : Nat), boolA a.2], .cl gmo 3 [intA most]] ++ rest))
      [(2, u2), (4, .v (ptrV g3)), (5, .v (ptrV g8)), (6, .v (ptrV ga)), (7, .v (ptrV gmo)), (8, u8), (10, .v (ptrV g10)), (11, .v (ptrV g11))] (.cl g11 131 [intA (aF b a : Nat), intA (aT b a : Nat), intA (aC a)] :: brE g3 g5 g7 g8 gs gn gw gm b cp H Z nd F ++ [.cl g10 118 [intA (a.1 : Nat), boolA a.2], .cl gmo 3 [intA most]] ++ rest) := by
  cases h
  simp only [List.cons_append, List.nil_append]
  refine awp_tree T0 [(0, 1), (1, 0), (2, 1), (3, 1), (4, 1), (5, 0), (6, 0), (7, 1), (8, 1), (9, 1), (10, 0), (11, 3), (12, 0)] (.op 0 1 (.op 1 0 (.op 2 1 (.op 3 1 (.op 4 1 (.op 5 0 (.op 6 0 (.op 7 1 (.op 8 1 (.op 9 1 (.op 10 0 (.op 11 3 (.op 12 0 .stop))))))))))))) [.cl g11 _ _, .cl g7 _ _, .rw (.slice (some ⟨gs, 0, none⟩) H H) _ _ _, .cl g5 _ _, .rw (.slice (some ⟨gn, 0, none⟩) H H) _ _ _, .cl g3 _ _, .cl gw _ _, leftM gm F, .cl g8 _ _, .cl g10 _ _, .cl gmo _ _] rfl (by kernel_rfl) (by solve | repeat' constructor) ?_
  refine awt_lo rfl (wt_none rfl) (lv_cl1 T0 rfl rfl rfl (by solve | repeat' constructor) (by first | rfl | assumption)) rfl rfl rfl ?_
  refine awt_po rfl (wt_none rfl) (pv_ix_arr T0 rfl rfl rfl rfl (by omega) (by simp; rfl)) rfl rfl ?_
  refine awt_lo rfl (wt_none rfl) (lv_cl1 T0 rfl rfl rfl (by solve | repeat' constructor) (by first | rfl | assumption)) rfl rfl rfl ?_
  refine awt_lo rfl (wt_none rfl) (lv_cl1 T0 rfl rfl rfl (by solve | repeat' constructor) (by first | rfl | assumption)) rfl rfl rfl ?_
  refine awt_lo rfl (wt_none rfl) (lv_cl1 T0 rfl rfl rfl (by solve | repeat' constructor) (by first | rfl | assumption)) rfl rfl rfl ?_
  refine awt_po rfl (wt_none rfl) (pv_nilCheck rfl rfl) rfl rfl ?_
  refine awt_po rfl (wt_none rfl) (pv_fa T0 rfl rfl rfl (by simp; rfl)) rfl rfl ?_
  refine awt_lo rfl (wt_none rfl) (lv_cl1 T0 rfl rfl rfl (by solve | repeat' constructor) (by first | rfl | assumption)) rfl rfl rfl ?_
  refine awt_lo rfl (wt_none rfl) (lv_cla T0 rfl rfl rfl (by solve | repeat' constructor) rfl) rfl rfl rfl ?_
  refine awt_lo rfl (wt_none rfl) (lv_lookupF Ma (k := a) rfl rfl rfl rfl (by solve | repeat' constructor) rfl) rfl rfl rfl ?_
  refine awt_po rfl (wt_none rfl) (pv_min2 rfl rfl rfl) rfl rfl ?_
  refine awt_s (md := fun _ => True) rfl (wt_none rfl) (st_acall T0 (hC) rfl rfl rfl rfl (by first | exact callee_lit | exact callee_v | exact callee_fn | assumption) (by solve | repeat' constructor) (by first | rfl | assumption) rfl (by first | ((repeat' (first | exact SubH.refl _ | apply SubH.cons | exact Pick.here | apply Pick.there)); all_goals fail) | fail) (fun _ _ => trivial) ?_)
  rintro r h' ⟨n, Z', nd', F', hR, rfl, rfl⟩
  refine awe_p rfl (wt_none rfl) (pv_assign rfl rfl) rfl rfl ?_
  refine awe_end ?_
  exact cut_n ⟨n, Z', nd', F', hR, rfl, rfl⟩ (by first | ((repeat' (first | exact True.intro | refine ⟨rfl, ?_⟩)); all_goals fail) | fail) (by simp only [List.cons_append, List.nil_append]; repeat' (first | exact subh_tail _ _ | exact Pick.here | apply Pick.there | apply SubH.cons))
end
end Go.Proofs.Ytilhflfbbfeakaa
end
section
namespace Go.Proofs.Ytilhflfbbfeakaa
open Go Go.RowKit Go.Tl
set_option linter.unusedVariables false
set_option linter.unusedSimpArgs false
set_option maxRecDepth 100000
set_option maxHeartbeats 4000000
attribute [local irreducible] AWP AWL AOp PV LV AWT AWE
theorem bwalk1_p (g3 g5 g7 g8 gs gn gw gm : Nat) (b : BookD) (cp : Bool) (cap : Nat → Int) (hv : VBook b) (H : Nat) (hH : b.houses = H) (hcap : ∀ i, i < b.cons.length → cap i ≤ 100) : ∀ (N : Nat) (at' : Nat) (most : Int) (Z : Nat → Bool) (nd f : Nat → Int),
    posN (unF Z) H ≤ N → at' < H → Z at' = false → 1 ≤ most → most ≤ 100000 → (∀ v, v < H → -100000 ≤ nd v ∧ nd v ≤ 100000) → (∀ i, i < b.cons.length → 0 ≤ f i ∧ f i ≤ cap i) →
    ACall Try.prog 110 [intA at', intA most, .v (ptrV g7), .v (ptrV g5), .v (ptrV g3), .v (ptrV g8)] (brE g3 g5 g7 g8 gs gn gw gm b cp H Z nd (fL cap f)) (fun r h' => ∃ n Z' nd' f', BrPost b cap at' most Z nd f n Z' nd' f' ∧ r = intA n ∧ h' = brE g3 g5 g7 g8 gs gn gw gm b cp H Z' nd' (fL cap f')) := by
  have hh := hv.houses
  have hlen := hv.len
  have hHt : b.houses.toNat = H := by omega
  intro N
  induction N with
  | zero =>
    intro at' most Z nd f hN hat hZ
    have h1 := pos_lt (f := unF Z) (g := fun _ => 0) (j := at') (by unfold unF; rw [hZ]; decide) (Int.le_refl _) H hat (fun i _ => by unfold unF; split <;> omega)
    omega
  | succ N ih =>
  intro at' most Z nd f hN hat hZ hm hm2 hnd hbd
  have hnda := hnd at' hat
  refine acall_of_awp T0 Try.func110 rfl rfl rfl ?_
  repeat (first | refine awp_seq ?_ | refine awp_region_lit rfl ?_)
  refine awl_hw (by first | exact wt_none rfl | exact wt_some' rfl rfl rfl rfl (by first | rfl | assumption | exact dT (by omega) | exact dF (by omega))) (st_box rfl rfl (by first | rfl | assumption) (by first | assumption | (simp only [cellsA]; rfl)) rfl rfl ?_)
  intro ga
  skip
  refine awl_hw (by first | exact wt_none rfl | exact wt_some' rfl rfl rfl rfl (by first | rfl | assumption | exact dT (by omega) | exact dF (by omega))) (st_box rfl rfl (by first | rfl | assumption) (by first | assumption | (simp only [cellsA]; rfl)) rfl rfl ?_)
  intro gmo
  skip
  refine awl_hw (by first | exact wt_none rfl | exact wt_some' rfl rfl rfl rfl (by first | rfl | assumption | exact dT (by omega) | exact dF (by omega))) (st_alloc T0 rfl rfl rfl rfl (by simp only [Value.cells, List.toList_toArray, List.map_cons, List.map_nil]; rfl) ?_)
  intro gr
  have r1 := bRows_len Z H
  have r2 := fRows_len nd H
  have r3 : ((fRows nd H).getD at' [])[0]? = some (intA (nd at')) := fRows_at hat
  have hset := bRows_set (Z := Z) (Z' := fun v => if v = at' then true else Z v) (x := true) hat (fun q _ => rfl)
  repeat (first | refine awp_seq ?_ | refine awp_region_lit rfl ?_ | ((first | (show AWL _ _ _ (⟨_, .load _ _, _, _, _, _⟩ :: _) _ _ _; refine awl_lw ?wtq (lv_cl1 T0 rfl rfl rfl (by solve | repeat' constructor) (by first | rfl | assumption)) rfl rfl rfl ?_) | (show AWL _ _ _ (⟨_, .indexAddr _ _ _, _, _, _, _⟩ :: _) _ _ _; refine awl_pw ?wtq (pv_ix_own T0 rfl rfl rfl rfl (by omega) (by first | exact (rfl : Int.toNat 0 = 0) | exact Int.toNat_natCast _ | rfl)) rfl rfl ?_)); case wtq => first | exact wt_none rfl | exact wt_some' rfl rfl rfl rfl (by first | rfl | assumption | exact dT (by omega) | exact dF (by omega))) | refine awl_nil ?_)
  refine awl_hw (by first | exact wt_none rfl | exact wt_some' rfl rfl rfl rfl (by first | rfl | assumption | exact dT (by omega) | exact dF (by omega))) (aop_store_rp T0 rfl rfl rfl rfl rfl rfl rfl rfl (by solve | repeat' constructor) (by first | omega | (simp; omega)) (by omega) rfl trivial ?_)
  simp only [cellsA]
  rw [hset]
  clear hset
  by_cases hp : 0 < nd at'
  · have d1 := decide_eq_true hp
    repeat (first | refine awp_seq ?_ | refine awp_region_lit rfl ?_ | refine then_n ?_ | refine awp_cond_t rfl (by first | rfl | assumption | exact dT (by omega)) ?_ | ((first | (show AWL _ _ _ (⟨_, .load _ _, _, _, _, _⟩ :: _) _ _ _; refine awl_lw ?wtq (lv_cl1 T0 rfl rfl rfl (by solve | repeat' constructor) (by first | rfl | assumption)) rfl rfl rfl ?_) | (show AWL _ _ _ (⟨_, .load _ _, _, _, _, _⟩ :: _) _ _ _; refine awl_lw ?wtq (lv_rp T0 rfl rfl rfl (by solve | repeat' constructor) (by first | omega | (simp; omega)) (by omega) (by first | assumption | rfl)) rfl rfl rfl ?_) | (show AWL _ _ _ (⟨_, .indexAddr _ _ _, _, _, _, _⟩ :: _) _ _ _; refine awl_pw ?wtq (pv_ix_own T0 rfl rfl rfl rfl (by omega) (by first | exact (rfl : Int.toNat 0 = 0) | exact Int.toNat_natCast _ | rfl)) rfl rfl ?_) | (show AWL _ _ _ (⟨_, .binOp .gtr _ _ _ _, _, _, _, _⟩ :: _) _ _ _; refine awl_pw ?wtq (pv_gtr rfl rfl rfl) rfl rfl ?_)); case wtq => first | exact wt_none rfl | exact wt_some' rfl rfl rfl rfl (by first | rfl | assumption | exact dT (by omega) | exact dF (by omega))) | refine awl_nil ?_)
    refine awp_cut _ (awp_weak (by first | ((repeat' (first | exact True.intro | refine ⟨rfl, ?_⟩)); all_goals fail) | fail) (by solve | repeat' constructor) (de_3 (g5 := g5) (ga := ga) (gmo := gmo) (gr := gr) (gn := gn) (at' := at') (H := H) (nd := nd) (most := most) (rest := [.cl g7 132 [.v (.slice (some ⟨gs, 0, none⟩) H H)], .rw (.slice (some ⟨gs, 0, none⟩) H H) 4 1 (bRows (fun v => if v = at' then true else Z v) H), .cl g3 96 [.v (ptrV gw)], workE gw gm b cp, leftM gm (fL cap f), .cl g8 133 [.v (.func (.func 110) #[] #[ptrV g7, ptrV g5, ptrV g3, ptrV g8])], .cl gr 3 [intA 0]]) hat (by omega) rfl)) ?_
    rintro s h ⟨rfl, rfl⟩
    have hset := fRows_set (f := nd) (g := fun q => if q = at' then nd at' - min most (nd at') else nd q) (m := H) (j := at') (v := nd at' - min most (nd at')) hat (fun q _ => rfl)
    repeat (first | refine awp_seq ?_ | refine awp_region_lit rfl ?_ | ((first | (show AWL _ _ _ (⟨_, .move _, _, _, _, _⟩ :: _) _ _ _; refine awl_pw ?wtq (pv_move rfl rfl) rfl rfl ?_) | (show AWL _ _ _ (⟨_, .load _ _, _, _, _, _⟩ :: _) _ _ _; refine awl_lw ?wtq (lv_cl1 T0 rfl rfl rfl (by solve | repeat' constructor) (by first | rfl | assumption)) rfl rfl rfl ?_) | (show AWL _ _ _ (⟨_, .load _ _, _, _, _, _⟩ :: _) _ _ _; refine awl_lw ?wtq (lv_rp T0 rfl rfl rfl (by solve | repeat' constructor) (by first | omega | (simp; omega)) (by omega) (by first | assumption | rfl)) rfl rfl rfl ?_) | (show AWL _ _ _ (⟨_, .indexAddr _ _ _, _, _, _, _⟩ :: _) _ _ _; refine awl_pw ?wtq (pv_ix_own T0 rfl rfl rfl rfl (by omega) (by first | exact (rfl : Int.toNat 0 = 0) | exact Int.toNat_natCast _ | rfl)) rfl rfl ?_) | (show AWL _ _ _ (⟨_, .binOp .sub _ _ _ _, _, _, _, _⟩ :: _) _ _ _; refine awl_pw ?wtq (pv_sub rfl rfl rfl (by first | assumption | exact wr64 (by omega))) rfl rfl ?_)); case wtq => first | exact wt_none rfl | exact wt_some' rfl rfl rfl rfl (by first | rfl | assumption | exact dT (by omega) | exact dF (by omega))))
    refine awl_hw (by first | exact wt_none rfl | exact wt_some' rfl rfl rfl rfl (by first | rfl | assumption | exact dT (by omega) | exact dF (by omega))) (aop_store_rp T0 rfl rfl rfl rfl rfl rfl rfl rfl (by solve | repeat' constructor) (by first | omega | (simp; omega)) (by omega) rfl trivial ?_)
    simp only [cellsA]
    rw [hset]
    repeat (first | refine awp_seq ?_ | refine awp_region_lit rfl ?_ | refine awp_ret ?_ | refine then_r ?_ | ((first | (show AWL _ _ _ (⟨_, .move _, _, _, _, _⟩ :: _) _ _ _; refine awl_pw ?wtq (pv_move rfl rfl) rfl rfl ?_)); case wtq => first | exact wt_none rfl | exact wt_some' rfl rfl rfl rfl (by first | rfl | assumption | exact dT (by omega) | exact dF (by omega))) | (show AWL _ _ _ (⟨_, .store _ _ _, _, _, _, _⟩ :: _) _ _ _; refine awl_hw (by first | exact wt_none rfl | exact wt_some' rfl rfl rfl rfl (by first | rfl | assumption | exact dT (by omega) | exact dF (by omega))) (st_store T0 rfl rfl rfl rfl rfl (by first | assumption | (simp only [cellsA]; rfl)) rfl rfl rfl (by solve | repeat' constructor) (by solve | repeat' constructor) trivial ?_)) | refine awl_nil ?_)
    exact body_r (h' := brE g3 g5 g7 g8 gs gn gw gm b cp H (fun v => if v = at' then true else Z v) (fun q => if q = at' then nd at' - min most (nd at') else nd q) (fL cap f)) (.cons ⟨gr, _, _, _, _, rfl, rfl, (by solve | repeat' constructor), Nat.le_refl _, .inr rfl, rfl⟩ .nil) (by solve | repeat' constructor) ⟨_, _, _, f, post_here hbd hm hp rfl, rfl, rfl⟩
  have d1 := decide_eq_false hp
  have hmid := mid_nil (b := b) (cap := cap) (at' := at') (Z := Z) (nd := nd) (f := f)
  generalize (fun v => if v = at' then true else Z v) = Z1 at *
  repeat (first | refine awp_seq ?_ | refine awp_region_lit rfl ?_ | refine awp_skip ?_ | refine then_n ?_ | refine awp_cond_f rfl (by first | rfl | assumption | exact dF (by omega)) ?_ | ((first | (show AWL _ _ _ (⟨_, .load _ _, _, _, _, _⟩ :: _) _ _ _; refine awl_lw ?wtq (lv_cl1 T0 rfl rfl rfl (by solve | repeat' constructor) (by first | rfl | assumption)) rfl rfl rfl ?_) | (show AWL _ _ _ (⟨_, .load _ _, _, _, _, _⟩ :: _) _ _ _; refine awl_lw ?wtq (lv_rp T0 rfl rfl rfl (by solve | repeat' constructor) (by first | omega | (simp; omega)) (by omega) (by first | assumption | rfl)) rfl rfl rfl ?_) | (show AWL _ _ _ (⟨_, .indexAddr _ _ _, _, _, _, _⟩ :: _) _ _ _; refine awl_pw ?wtq (pv_ix_own T0 rfl rfl rfl rfl (by omega) (by first | exact (rfl : Int.toNat 0 = 0) | exact Int.toNat_natCast _ | rfl)) rfl rfl ?_) | (show AWL _ _ _ (⟨_, .binOp .gtr _ _ _ _, _, _, _, _⟩ :: _) _ _ _; refine awl_pw ?wtq (pv_gtr rfl rfl rfl) rfl rfl ?_)); case wtq => first | exact wt_none rfl | exact wt_some' rfl rfl rfl rfl (by first | rfl | assumption | exact dT (by omega) | exact dF (by omega))) | refine awl_nil ?_)
  refine awl_hw (by first | exact wt_none rfl | exact wt_some' rfl rfl rfl rfl (by first | rfl | assumption | exact dT (by omega) | exact dF (by omega))) (st_acall T0 (arcs_p gw) rfl rfl rfl rfl (by first | exact callee_lit | exact callee_v | exact callee_fn | assumption) (by solve | repeat' constructor) (by first | rfl | assumption) rfl (by first | ((repeat' (first | exact SubH.refl _ | apply SubH.cons | exact Pick.here | apply Pick.there)); all_goals fail) | fail) (fun _ _ => trivial) ?_)
  rintro r h ⟨gb, rfl, rfl⟩
  simp only [List.cons_append, List.nil_append]
  repeat (first | refine awp_block ?_ | refine awl_nil ?_)
  have hZr : ∀ Z', ((bRows Z' H).length = H) := fun Z' => bRows_len Z' H
  refine awp_rangeFuncS T0 (Pre := PreA b (fL cap f)) (Full := FullA b (fL cap f)) (hf := [.cl g7 132 [.v (.slice (some ⟨gs, 0, none⟩) H H)], .rw (.slice (some ⟨gs, 0, none⟩) H H) 4 1 (bRows Z1 H), .cl g5 27 [.v (.slice (some ⟨gn, 0, none⟩) H H)], .rw (.slice (some ⟨gn, 0, none⟩) H H) 3 1 (fRows nd H), .cl g3 96 [.v (ptrV gw)], .cl g8 133 [.v (.func (.func 110) #[] #[ptrV g7, ptrV g5, ptrV g3, ptrV g8])], .cl ga 3 [intA at'], .cl gmo 3 [intA most], .cl gr 3 [intA 0]])
    (fun pre h => ∃ l Z', pre = l.map (arcRow b) ∧ BrMid b cap at' Z nd f l Z' ∧ h = [.cl g7 132 [.v (.slice (some ⟨gs, 0, none⟩) H H)], .rw (.slice (some ⟨gs, 0, none⟩) H H) 4 1 (bRows Z' H), .cl g5 27 [.v (.slice (some ⟨gn, 0, none⟩) H H)], .rw (.slice (some ⟨gn, 0, none⟩) H H) 3 1 (fRows nd H), .cl g3 96 [.v (ptrV gw)], .cl g8 133 [.v (.func (.func 110) #[] #[ptrV g7, ptrV g5, ptrV g3, ptrV g8])], .cl ga 3 [intA at'], .cl gmo 3 [intA most], .cl gr 3 [intA 0]])
    (fun _ e h => e = .ret ∧ ∃ n Z' nd' f', BrPost b cap at' most Z nd f n Z' nd' f' ∧ h = .cl gr 3 [intA n] :: brE g3 g5 g7 g8 gs gn gw gm b cp H Z' nd' (fL cap f')) rfl (callee_v (a := []) (b := [ptrV gb])) rfl (arcs1_p gb gw gm b cp (fL cap f) hv) (by solve | repeat' constructor) ⟨[], Z1, rfl, hmid, rfl⟩ ?_ rfl ?_ ?_ ?_ (fun _ _ _ _ h => nomatch h.1)
  · intro pre y hp
    obtain ⟨a, -, rfl⟩ := pre_arc hp
    rfl
  · rintro l pre y h' hp ⟨l1, Z', rfl, hM, rfl⟩
    obtain ⟨a, ha, rfl⟩ := pre_arc hp
    have he := arc_ends hv ha
    obtain ⟨hai, haF⟩ := mem_arcs.1 ha
    have hFb := fL_bd2 (b := b) hcap hbd hai
    have hFb2 := fL_bd2 (b := b) (a := (a.1, !a.2)) hcap hbd hai
    have htH : aT b a < H := by omega
    have hfH : aF b a < H := by omega
    have r1 : ((bRows Z' H).getD (aT b a) [])[0]? = some (boolA (Z' (aT b a))) := bRows_at htH
    have r2 := hZr Z'
    have hend : ∀ Z'', BrMid b cap at' Z nd f (l1 ++ [a]) Z'' → ∃ h', ([.cl gb 96 [.v (ptrV gw)], workE gw gm b cp, leftM gm (fL cap f), .cl g7 132 [.v (.slice (some ⟨gs, 0, none⟩) H H)], .rw (.slice (some ⟨gs, 0, none⟩) H H) 4 1 (bRows Z'' H), .cl g5 27 [.v (.slice (some ⟨gn, 0, none⟩) H H)], .rw (.slice (some ⟨gn, 0, none⟩) H H) 3 1 (fRows nd H), .cl g3 96 [.v (ptrV gw)], .cl g8 133 [.v (.func (.func 110) #[] #[ptrV g7, ptrV g5, ptrV g3, ptrV g8])], .cl ga 3 [intA at'], .cl gmo 3 [intA most], .cl gr 3 [intA 0]] : List Ent) = hcA gb gw gm b cp (fL cap f) ++ h' ∧ ∃ l Z', l1.map (arcRow b) ++ [arcRow b a] = l.map (arcRow b) ∧ BrMid b cap at' Z nd f l Z' ∧ h' = [.cl g7 132 [.v (.slice (some ⟨gs, 0, none⟩) H H)], .rw (.slice (some ⟨gs, 0, none⟩) H H) 4 1 (bRows Z' H), .cl g5 27 [.v (.slice (some ⟨gn, 0, none⟩) H H)], .rw (.slice (some ⟨gn, 0, none⟩) H H) 3 1 (fRows nd H), .cl g3 96 [.v (ptrV gw)], .cl g8 133 [.v (.func (.func 110) #[] #[ptrV g7, ptrV g5, ptrV g3, ptrV g8])], .cl ga 3 [intA at'], .cl gmo 3 [intA most], .cl gr 3 [intA 0]] := fun Z'' hM' => ⟨_, rfl, l1 ++ [a], Z'', by rw [List.map_append]; rfl, hM', rfl⟩
    simp only [List.cons_append, List.nil_append]
    repeat (first | refine awp_seq ?_ | refine awp_region_lit rfl ?_)
    refine awl_hw (by first | exact wt_none rfl | exact wt_some' rfl rfl rfl rfl (by first | rfl | assumption | exact dT (by omega) | exact dF (by omega))) (st_alloc T0 rfl rfl rfl rfl (by simp only [Value.cells, List.toList_toArray, List.map_cons, List.map_nil]; rfl) ?_)
    intro g10
    repeat (first | refine awp_region_lit rfl ?_ | (show AWL _ _ _ (⟨_, .store _ _ _, _, _, _, _⟩ :: _) _ _ _; refine awl_hw (by first | exact wt_none rfl | exact wt_some' rfl rfl rfl rfl (by first | rfl | assumption | exact dT (by omega) | exact dF (by omega))) (st_store T0 rfl rfl rfl rfl rfl (by first | assumption | (simp only [cellsA]; rfl)) rfl rfl rfl (by solve | repeat' constructor) (by solve | repeat' constructor) trivial ?_)) | refine awl_nil ?_)
    refine awl_hw (by first | exact wt_none rfl | exact wt_some' rfl rfl rfl rfl (by first | rfl | assumption | exact dT (by omega) | exact dF (by omega))) (st_alloc T0 rfl rfl rfl rfl (by simp only [Value.cells, List.toList_toArray, List.map_cons, List.map_nil]; rfl) ?_)
    intro g11
    repeat (first | (show AWL _ _ _ (⟨_, .store _ _ _, _, _, _, _⟩ :: _) _ _ _; refine awl_hw (by first | exact wt_none rfl | exact wt_some' rfl rfl rfl rfl (by first | rfl | assumption | exact dT (by omega) | exact dF (by omega))) (st_store T0 rfl rfl rfl rfl rfl (by first | assumption | (simp only [cellsA]; rfl)) rfl rfl rfl (by solve | repeat' constructor) (by solve | repeat' constructor) trivial ?_)) | refine awl_nil ?_)
    refine ⟨rfl, ?_⟩
    by_cases c1 : aF b a = at'
    case neg =>
      have d2 : decide ((aF b a : Int) ≠ at') = true := decide_eq_true (by omega)
      repeat (first | refine awp_seq ?_ | refine awp_block ?_ | refine awp_region_lit rfl ?_ | refine awp_exit ?_ | refine then_n ?_ | refine then_x ?_ | refine blk_x ?_ | refine awp_cond_t rfl (by first | rfl | assumption | exact dT (by omega)) ?_ | ((first | (show AWL _ _ _ (⟨_, .move _, _, _, _, _⟩ :: _) _ _ _; refine awl_pw ?wtq (pv_move rfl rfl) rfl rfl ?_) | (show AWL _ _ _ (⟨_, .load _ _, _, _, _, _⟩ :: _) _ _ _; refine awl_lw ?wtq (lv_cl1 T0 rfl rfl rfl (by solve | repeat' constructor) (by first | rfl | assumption)) rfl rfl rfl ?_) | (show AWL _ _ _ (⟨_, .indexAddr _ _ _, _, _, _, _⟩ :: _) _ _ _; refine awl_pw ?wtq (pv_ix_arr T0 rfl rfl rfl rfl (by omega) (by simp; rfl)) rfl rfl ?_) | (show AWL _ _ _ (⟨_, .binOp .neq _ _ _ _, _, _, _, _⟩ :: _) _ _ _; refine awl_pw ?wtq (pv_neq rfl rfl rfl) rfl rfl ?_) | (show AWL _ _ _ (⟨_, .pick _ _ _, _, _, _, _⟩ :: _) _ _ _; refine awl_pw ?wtq (pv_pick_t rfl rfl (by first | rfl | assumption | exact dT (by omega) | exact dF (by omega)) rfl) rfl rfl ?_)); case wtq => first | exact wt_none rfl | exact wt_some' rfl rfl rfl rfl (by first | rfl | assumption | exact dT (by omega) | exact dF (by omega))) | refine awl_sk (wf_some rfl rfl rfl rfl (by first | rfl | assumption | exact dT (by omega) | exact dF (by omega))) rfl rfl ?_ | refine awl_nil ?_)
      exact ⟨_, (by solve | repeat' constructor), hend Z' (mid_skip hM fun e => absurd e c1)⟩
    have d2 : decide ((aF b a : Int) ≠ at') = false := decide_eq_false (by omega)
    cases c2 : Z' (aT b a)
    case true =>
      rw [c2] at r1
      repeat (first | refine awp_seq ?_ | refine awp_block ?_ | refine awp_region_lit rfl ?_ | refine awp_exit ?_ | refine then_n ?_ | refine then_x ?_ | refine blk_x ?_ | refine awp_cond_t rfl (by first | rfl | assumption | exact dT (by omega)) ?_ | ((first | (show AWL _ _ _ (⟨_, .move _, _, _, _, _⟩ :: _) _ _ _; refine awl_pw ?wtq (pv_move rfl rfl) rfl rfl ?_) | (show AWL _ _ _ (⟨_, .load _ _, _, _, _, _⟩ :: _) _ _ _; refine awl_lw ?wtq (lv_cl1 T0 rfl rfl rfl (by solve | repeat' constructor) (by first | rfl | assumption)) rfl rfl rfl ?_) | (show AWL _ _ _ (⟨_, .load _ _, _, _, _, _⟩ :: _) _ _ _; refine awl_lw ?wtq (lv_rp T0 rfl rfl rfl (by solve | repeat' constructor) (by first | omega | (simp; omega)) (by omega) (by first | assumption | rfl)) rfl rfl rfl ?_) | (show AWL _ _ _ (⟨_, .indexAddr _ _ _, _, _, _, _⟩ :: _) _ _ _; refine awl_pw ?wtq (pv_ix_own T0 rfl rfl rfl rfl (by omega) (by first | exact (rfl : Int.toNat 0 = 0) | exact Int.toNat_natCast _ | rfl)) rfl rfl ?_) | (show AWL _ _ _ (⟨_, .indexAddr _ _ _, _, _, _, _⟩ :: _) _ _ _; refine awl_pw ?wtq (pv_ix_arr T0 rfl rfl rfl rfl (by omega) (by simp; rfl)) rfl rfl ?_) | (show AWL _ _ _ (⟨_, .binOp .neq _ _ _ _, _, _, _, _⟩ :: _) _ _ _; refine awl_pw ?wtq (pv_neq rfl rfl rfl) rfl rfl ?_) | (show AWL _ _ _ (⟨_, .pick _ _ _, _, _, _, _⟩ :: _) _ _ _; refine awl_pw ?wtq (pv_pick_f rfl rfl (by first | rfl | assumption | exact dT (by omega) | exact dF (by omega)) rfl) rfl rfl ?_)); case wtq => first | exact wt_none rfl | exact wt_some' rfl rfl rfl rfl (by first | rfl | assumption | exact dT (by omega) | exact dF (by omega))) | refine awl_nil ?_)
      exact ⟨_, (by solve | repeat' constructor), hend Z' (mid_skip hM fun _ => c2)⟩
    rw [c2] at r1
    have hC := ih (aT b a) (min most (fL cap f a)) Z' nd f (by
      have h1 := pos_lt (f := unF Z) (g := unF Z') (j := at') (by unfold unF; rw [hZ]; decide) (by unfold unF; rw [hM.hat]; decide) H hat (fun i _ => by
        unfold unF
        cases e : Z i
        · split <;> simp
        · rw [hM.sub i e]; simp)
      omega) htH c2 (by omega) (by omega) hnd hbd
    repeat (first | refine awp_seq ?_ | refine awp_block ?_ | refine awp_region_lit rfl ?_ | refine awp_skip ?_ | refine then_n ?_ | refine awp_cond_f rfl (by first | rfl | assumption | exact dF (by omega)) ?_ | ((first | (show AWL _ _ _ (⟨_, .move _, _, _, _, _⟩ :: _) _ _ _; refine awl_pw ?wtq (pv_move rfl rfl) rfl rfl ?_) | (show AWL _ _ _ (⟨_, .load _ _, _, _, _, _⟩ :: _) _ _ _; refine awl_lw ?wtq (lv_cl1 T0 rfl rfl rfl (by solve | repeat' constructor) (by first | rfl | assumption)) rfl rfl rfl ?_) | (show AWL _ _ _ (⟨_, .load _ _, _, _, _, _⟩ :: _) _ _ _; refine awl_lw ?wtq (lv_rp T0 rfl rfl rfl (by solve | repeat' constructor) (by first | omega | (simp; omega)) (by omega) (by first | assumption | rfl)) rfl rfl rfl ?_) | (show AWL _ _ _ (⟨_, .indexAddr _ _ _, _, _, _, _⟩ :: _) _ _ _; refine awl_pw ?wtq (pv_ix_own T0 rfl rfl rfl rfl (by omega) (by first | exact (rfl : Int.toNat 0 = 0) | exact Int.toNat_natCast _ | rfl)) rfl rfl ?_) | (show AWL _ _ _ (⟨_, .indexAddr _ _ _, _, _, _, _⟩ :: _) _ _ _; refine awl_pw ?wtq (pv_ix_arr T0 rfl rfl rfl rfl (by omega) (by simp; rfl)) rfl rfl ?_) | (show AWL _ _ _ (⟨_, .binOp .neq _ _ _ _, _, _, _, _⟩ :: _) _ _ _; refine awl_pw ?wtq (pv_neq rfl rfl rfl) rfl rfl ?_) | (show AWL _ _ _ (⟨_, .pick _ _ _, _, _, _, _⟩ :: _) _ _ _; refine awl_pw ?wtq (pv_pick_f rfl rfl (by first | rfl | assumption | exact dT (by omega) | exact dF (by omega)) rfl) rfl rfl ?_)); case wtq => first | exact wt_none rfl | exact wt_some' rfl rfl rfl rfl (by first | rfl | assumption | exact dT (by omega) | exact dF (by omega))) | refine awl_nil ?_)
    refine awp_cut _ (awp_weak (by first | ((repeat' (first | exact True.intro | refine ⟨rfl, ?_⟩)); all_goals fail) | fail) (by solve | repeat' constructor) (de_10 (b := b) (cp := cp) (g3 := g3) (g5 := g5) (g7 := g7) (g8 := g8) (g10 := g10) (g11 := g11) (ga := ga) (gmo := gmo) (gs := gs) (gn := gn) (gw := gw) (gm := gm) (H := H) (nd := nd) (F := fL cap f) (a := a) (most := most) (u2 := .v (ptrV g7)) (u8 := .v (ptrV gr)) (Z := Z') (rest := [.cl ga 3 [intA at'], .cl gr 3 [intA 0], .cl gb 96 [.v (ptrV gw)]])
      (R := fun n Z2 nd2 F2 => ∃ f2, BrPost b cap (aT b a) (min most (fL cap f a)) Z' nd f n Z2 nd2 f2 ∧ F2 = fL cap f2) (hC.mono fun r h' ⟨n, Z2, nd2, f2, hP, e1, e2⟩ => ⟨n, Z2, nd2, _, ⟨f2, hP, rfl⟩, e1, e2⟩) rfl)) ?_
    rintro s h ⟨n, Z2, nd2, F2, ⟨f2, hP, rfl⟩, rfl, rfl⟩
    simp only [List.cons_append, List.nil_append]
    by_cases hn : 0 < n
    · have d3 := decide_eq_true hn
      have hbd2 : ∀ i, i < b.cons.length → 0 ≤ f2 i ∧ f2 i ≤ cap i := by
        cases hP with
        | none => omega
        | some _ h => exact h
      have hn2 : n ≤ 100000 := by
        cases hP with
        | none => omega
        | some h => omega
      have hb1 := fL_bd2 (b := b) (a := a) hcap hbd2 hai
      have hb2 := fL_bd2 (b := b) (a := (a.1, !a.2)) hcap hbd2 hai
      have hpush := post_push (Z3 := Z2) hv hai c1 hM.sub hM.hat hZ c2 (by omega) hP
      have hfp := fun q => fL_push (cap := cap) (off := f2) (a := a) (x := n) (F1 := fun q => if q = a then fL cap f2 a - n else fL cap f2 q) (fun _ => rfl) q
      have hne : ((a.1, !a.2) : Arc) ≠ a := fun e => by have := congrArg Prod.snd e; simp at this
      repeat (first | refine awp_seq ?_ | refine awp_region_lit rfl ?_ | refine then_n ?_ | refine awp_cond_t rfl (by first | rfl | assumption | exact dT (by omega)) ?_ | ((first | (show AWL _ _ _ (⟨_, .move _, _, _, _, _⟩ :: _) _ _ _; refine awl_pw ?wtq (pv_move rfl rfl) rfl rfl ?_) | (show AWL _ _ _ (⟨_, .binOp .gtr _ _ _ _, _, _, _, _⟩ :: _) _ _ _; refine awl_pw ?wtq (pv_gtr rfl rfl rfl) rfl rfl ?_)); case wtq => first | exact wt_none rfl | exact wt_some' rfl rfl rfl rfl (by first | rfl | assumption | exact dT (by omega) | exact dF (by omega))) | refine awl_nil ?_)
      refine awp_cut _ (awp_weak (by first | ((repeat' (first | exact True.intro | refine ⟨rfl, ?_⟩)); all_goals fail) | fail) (by solve | repeat' constructor) (de_12 (b := b) (cp := cp) (g3 := g3) (g10 := g10) (gw := gw) (gm := gm) (a := a) (x := n) (F := fL cap f2) (F1 := fun q => if q = a then fL cap f2 a - n else fL cap f2 q) (u8 := .v (ptrV gr)) (rest := [.cl gr 3 [intA 0], .cl g7 132 [.v (.slice (some ⟨gs, 0, none⟩) H H)], .rw (.slice (some ⟨gs, 0, none⟩) H H) 4 1 (bRows Z2 H), .cl g5 27 [.v (.slice (some ⟨gn, 0, none⟩) H H)], .rw (.slice (some ⟨gn, 0, none⟩) H H) 3 1 (fRows nd2 H), .cl g8 133 [.v (.func (.func 110) #[] #[ptrV g7, ptrV g5, ptrV g3, ptrV g8])]]) (by omega) (by omega) (fun _ => rfl) rfl)) ?_
      rintro s h ⟨rfl, rfl⟩
      repeat (first | refine awp_seq ?_)
      refine awp_cut _ (awp_weak (by first | ((repeat' (first | exact True.intro | refine ⟨rfl, ?_⟩)); all_goals fail) | fail) (by solve | repeat' constructor) (de_13 (b := b) (cp := cp) (g3 := g3) (g10 := g10) (gw := gw) (gm := gm) (a := a) (x := n) (F := fun q => if q = a then fL cap f2 a - n else fL cap f2 q) (F1 := fL cap (psh f2 a n)) (u8 := .v (ptrV gr)) (rest := [.cl gr 3 [intA 0], .cl g7 132 [.v (.slice (some ⟨gs, 0, none⟩) H H)], .rw (.slice (some ⟨gs, 0, none⟩) H H) 4 1 (bRows Z2 H), .cl g5 27 [.v (.slice (some ⟨gn, 0, none⟩) H H)], .rw (.slice (some ⟨gn, 0, none⟩) H H) 3 1 (fRows nd2 H), .cl g8 133 [.v (.func (.func 110) #[] #[ptrV g7, ptrV g5, ptrV g3, ptrV g8])]]) (by
        show -1000000 ≤ (if ((a.1, !a.2) : Arc) = a then fL cap f2 a - n else fL cap f2 (a.1, !a.2)) ∧ (if ((a.1, !a.2) : Arc) = a then fL cap f2 a - n else fL cap f2 (a.1, !a.2)) ≤ 1000000
        rw [if_neg hne]; omega) (by omega) hfp rfl)) ?_
      rintro s h ⟨rfl, rfl⟩
      repeat (first | refine awp_seq ?_ | refine awp_region_lit rfl ?_ | refine awp_ret ?_ | refine blk_r ?_ | ((first | (show AWL _ _ _ (⟨_, .move _, _, _, _, _⟩ :: _) _ _ _; refine awl_pw ?wtq (pv_move rfl rfl) rfl rfl ?_)); case wtq => first | exact wt_none rfl | exact wt_some' rfl rfl rfl rfl (by first | rfl | assumption | exact dT (by omega) | exact dF (by omega))) | (show AWL _ _ _ (⟨_, .store _ _ _, _, _, _, _⟩ :: _) _ _ _; refine awl_hw (by first | exact wt_none rfl | exact wt_some' rfl rfl rfl rfl (by first | rfl | assumption | exact dT (by omega) | exact dF (by omega))) (st_store T0 rfl rfl rfl rfl rfl (by first | assumption | (simp only [cellsA]; rfl)) rfl rfl rfl (by solve | repeat' constructor) (by solve | repeat' constructor) trivial ?_)) | refine awl_nil ?_)
      exact ⟨_, (by solve | repeat' constructor), rfl, n, Z2, nd2, psh f2 a n, hpush, rfl⟩
    · have d3 := decide_eq_false hn
      cases hP with
      | some h => omega
      | none hsub hat' hcl =>
        repeat (first | refine awp_seq ?_ | refine awp_region_lit rfl ?_ | refine awp_skip ?_ | refine then_n ?_ | refine blk_n ?_ | refine awp_cond_f rfl (by first | rfl | assumption | exact dF (by omega)) ?_ | ((first | (show AWL _ _ _ (⟨_, .move _, _, _, _, _⟩ :: _) _ _ _; refine awl_pw ?wtq (pv_move rfl rfl) rfl rfl ?_) | (show AWL _ _ _ (⟨_, .binOp .gtr _ _ _ _, _, _, _, _⟩ :: _) _ _ _; refine awl_pw ?wtq (pv_gtr rfl rfl rfl) rfl rfl ?_)); case wtq => first | exact wt_none rfl | exact wt_some' rfl rfl rfl rfl (by first | rfl | assumption | exact dT (by omega) | exact dF (by omega))) | refine awl_nil ?_)
        exact ⟨_, (by solve | repeat' constructor), hend Z2 (mid_none hM hsub hat' hcl)⟩
  · rintro L h' hF ⟨l1, Z', hL, hM, rfl⟩
    obtain rfl := arcRows_inj (hF.symm.trans hL)
    simp only [List.cons_append, List.nil_append]
    repeat (first | refine awp_seq ?_ | refine awp_region_lit rfl ?_ | refine awp_ret ?_ | (show AWL _ _ _ (⟨_, .store _ _ _, _, _, _, _⟩ :: _) _ _ _; refine awl_hw (by first | exact wt_none rfl | exact wt_some' rfl rfl rfl rfl (by first | rfl | assumption | exact dT (by omega) | exact dF (by omega))) (st_store T0 rfl rfl rfl rfl rfl (by first | assumption | (simp only [cellsA]; rfl)) rfl rfl rfl (by solve | repeat' constructor) (by solve | repeat' constructor) trivial ?_)) | refine awl_nil ?_)
    exact body_r (h' := brE g3 g5 g7 g8 gs gn gw gm b cp H Z' nd (fL cap f)) (.cons ⟨gr, _, _, _, _, rfl, rfl, (by solve | repeat' constructor), Nat.le_refl _, .inr rfl, rfl⟩ .nil) (by solve | repeat' constructor) ⟨0, Z', nd, f, mid_end hM (by omega), rfl, rfl⟩
  · rintro L h' hp ⟨-, n, Z', nd', f', hP, rfl⟩
    repeat (first | refine then_r ?_ | refine blk_r ?_)
    exact body_r (h' := brE g3 g5 g7 g8 gs gn gw gm b cp H Z' nd' (fL cap f')) (.cons ⟨gr, _, _, _, _, rfl, rfl, (by solve | repeat' constructor), Nat.le_refl _, .inr rfl, rfl⟩ .nil) (by solve | repeat' constructor) ⟨n, Z', nd', f', hP, rfl, rfl⟩
end Go.Proofs.Ytilhflfbbfeakaa
end
