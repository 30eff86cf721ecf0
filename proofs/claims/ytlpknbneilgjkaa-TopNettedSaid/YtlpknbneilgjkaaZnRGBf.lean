/- Joined texts: Bf, Bg, Arr. -/
import Derived.Test.YtlpknbneilgjkaaZnRGs
import Derived.Test.YtlpknbneilgjkaaZnGTs
import Derived.Test.YtlpknbneilgjkaaZnRFr
section
namespace Go.Proofs.Ytlpknbneilgjkaa.R
open Go Go.RowKit Go.Tl
set_option linter.unusedVariables false
set_option linter.unusedSimpArgs false
abbrev Arc := Nat × Bool
def aF (b : BookD) (a : Arc) : Nat := if a.2 then (b.cons.getD a.1 default).to.toNat else (b.cons.getD a.1 default).frm.toNat
def aT (b : BookD) (a : Arc) : Nat := if a.2 then (b.cons.getD a.1 default).frm.toNat else (b.cons.getD a.1 default).to.toNat
def aC (a : Arc) : Int := if a.2 then 1 else -1
def arcsL (f : Arc → Int) : Nat → List Arc
  | 0 => []
  | k + 1 => (arcsL f k ++ if 0 < f (k, false) then [(k, false)] else []) ++ if 0 < f (k, true) then [(k, true)] else []
theorem mem_arcs {f : Arc → Int} {a : Arc} : ∀ {n : Nat}, a ∈ arcsL f n ↔ a.1 < n ∧ 0 < f a
  | 0 => by simp [arcsL]
  | n + 1 => by
    obtain ⟨i, t⟩ := a
    have ih := mem_arcs (f := f) (a := (i, t)) (n := n)
    simp only [arcsL, List.mem_append]
    rw [ih]
    have e1 : ((i, t) ∈ if 0 < f (n, false) then [((n, false) : Arc)] else []) ↔ (i = n ∧ t = false ∧ 0 < f (n, false)) := by
      split <;> simp_all
    have e2 : ((i, t) ∈ if 0 < f (n, true) then [((n, true) : Arc)] else []) ↔ (i = n ∧ t = true ∧ 0 < f (n, true)) := by
      split <;> simp_all
    rw [e1, e2]
    constructor
    · rintro ((⟨h1, h2⟩ | ⟨rfl, rfl, h⟩) | ⟨rfl, rfl, h⟩)
      · exact ⟨Nat.lt_succ_of_lt h1, h2⟩
      · exact ⟨Nat.lt_succ_self _, h⟩
      · exact ⟨Nat.lt_succ_self _, h⟩
    · rintro ⟨h1, h2⟩
      have h1 : i < n + 1 := h1
      by_cases e : i = n
      · subst e
        cases t
        · exact .inl (.inr ⟨rfl, rfl, h2⟩)
        · exact .inr ⟨rfl, rfl, h2⟩
      · exact .inl (.inl ⟨by show i < n; omega, h2⟩)
def sh1 (b : BookD) (d : Nat → Int) (s : (Nat → Int) × (Nat → Arc)) (a : Arc) : (Nat → Int) × (Nat → Arc) :=
  if d (aF b a) + aC a < s.1 (aT b a) then (fun v => if v = aT b a then d (aF b a) + aC a else s.1 v, fun v => if v = aT b a then a else s.2 v) else s
def shL (b : BookD) (d : Nat → Int) (bb : Nat → Arc) (L : List Arc) : (Nat → Int) × (Nat → Arc) := L.foldl (sh1 b d) (d, bb)
structure ShInv (b : BookD) (d : Nat → Int) (bb : Nat → Arc) (L : List Arc) (s : (Nat → Int) × (Nat → Arc)) : Prop where
  le : ∀ v, s.1 v ≤ d v
  ok : ∀ a ∈ L, s.1 (aT b a) ≤ d (aF b a) + aC a
  how : ∀ v, (s.1 v = d v ∧ s.2 v = bb v) ∨ (s.1 v < d v ∧ s.2 v ∈ L ∧ aT b (s.2 v) = v ∧ s.1 v = d (aF b (s.2 v)) + aC (s.2 v))
theorem sh1_inv {b : BookD} {d : Nat → Int} {bb : Nat → Arc} {L : List Arc} {s : (Nat → Int) × (Nat → Arc)} (h : ShInv b d bb L s) (a : Arc) : ShInv b d bb (L ++ [a]) (sh1 b d s a) := by
  unfold sh1
  by_cases c : d (aF b a) + aC a < s.1 (aT b a)
  · rw [if_pos c]
    have hle := h.le (aT b a)
    refine ⟨fun v => ?_, fun a' ha' => ?_, fun v => ?_⟩
    · show (if v = aT b a then _ else s.1 v) ≤ _
      split
      · rename_i e; subst e; omega
      · exact h.le v
    · show (if aT b a' = aT b a then _ else s.1 (aT b a')) ≤ _
      rcases List.mem_append.1 ha' with ha' | ha'
      · have := h.ok a' ha'
        split
        · rename_i e; rw [e] at this; omega
        · exact this
      · obtain rfl := List.mem_singleton.1 ha'
        rw [if_pos rfl]; exact Int.le_refl _
    · show ((if v = aT b a then _ else s.1 v) = _ ∧ (if v = aT b a then _ else s.2 v) = _) ∨ ((if v = aT b a then _ else s.1 v) < _ ∧ (if v = aT b a then a else s.2 v) ∈ _ ∧ aT b (if v = aT b a then a else s.2 v) = v ∧ (if v = aT b a then _ else s.1 v) = d (aF b (if v = aT b a then a else s.2 v)) + aC (if v = aT b a then a else s.2 v))
      by_cases e : v = aT b a
      · simp only [if_pos e]
        subst e
        exact .inr ⟨by omega, List.mem_append_right _ (List.mem_singleton.2 rfl), rfl, trivial⟩
      · simp only [if_neg e]
        rcases h.how v with h1 | ⟨h1, h2, h3, h4⟩
        · exact .inl h1
        · exact .inr ⟨h1, List.mem_append_left _ h2, h3, h4⟩
  · rw [if_neg c]
    refine ⟨h.le, fun a' ha' => ?_, fun v => ?_⟩
    · rcases List.mem_append.1 ha' with ha' | ha'
      · exact h.ok a' ha'
      · obtain rfl := List.mem_singleton.1 ha'
        omega
    · rcases h.how v with h1 | ⟨h1, h2, h3, h4⟩
      · exact .inl h1
      · exact .inr ⟨h1, List.mem_append_left _ h2, h3, h4⟩
theorem sh_inv {b : BookD} {d : Nat → Int} {bb : Nat → Arc} : ∀ (L : List Arc) {L0 : List Arc} {s : (Nat → Int) × (Nat → Arc)}, ShInv b d bb L0 s → ShInv b d bb (L0 ++ L) (L.foldl (sh1 b d) s)
  | [], L0, s, h => by rw [List.append_nil]; exact h
  | a :: L, L0, s, h => by
    have := sh_inv L (sh1_inv h a)
    rw [List.append_assoc] at this
    exact this
theorem shL_inv (b : BookD) (d : Nat → Int) (bb : Nat → Arc) (L : List Arc) : ShInv b d bb L (shL b d bb L) :=
  sh_inv (L0 := []) L ⟨fun v => Int.le_refl _, fun a h => (by cases h), fun v => .inl ⟨rfl, rfl⟩⟩
theorem shL_snoc (b : BookD) (d : Nat → Int) (bb : Nat → Arc) (L : List Arc) (a : Arc) : shL b d bb (L ++ [a]) = sh1 b d (shL b d bb L) a := by
  unfold shL; rw [List.foldl_append]; rfl
def bfR (b : BookD) (L : List Arc) : Nat → (Nat → Int) × (Nat → Arc)
  | 0 => (fun _ => 0, fun _ => (0, false))
  | k + 1 => shL b (bfR b L k).1 (bfR b L k).2 L
def bfT (b : BookD) (L : List Arc) : Nat → Nat → Nat
  | 0, _ => 0
  | k + 1, v => if (bfR b L (k + 1)).1 v < (bfR b L k).1 v then k + 1 else bfT b L k v
section
variable {b : BookD} {L : List Arc}
theorem bf_step (k : Nat) : ShInv b (bfR b L k).1 (bfR b L k).2 L (bfR b L (k + 1)) := shL_inv _ _ _ _
theorem bfT_le (v : Nat) : ∀ k, bfT b L k v ≤ k
  | 0 => Nat.le_refl _
  | k + 1 => by
    have := bfT_le v k
    unfold bfT
    split <;> omega
structure BfInv (b : BookD) (L : List Arc) (k : Nat) : Prop where
  fe : ∀ a ∈ L, k = 0 ∨ bfT b L k (aF b a) = k ∨ (bfR b L k).1 (aT b a) ≤ (bfR b L k).1 (aF b a) + aC a
  arc : ∀ v, 0 < bfT b L k v → (bfR b L k).2 v ∈ L ∧ aT b ((bfR b L k).2 v) = v ∧ bfT b L k v ≤ bfT b L k (aF b ((bfR b L k).2 v)) + 1 ∧
    (bfR b L k).1 (aF b ((bfR b L k).2 v)) + aC ((bfR b L k).2 v) ≤ (bfR b L k).1 v ∧
    (bfT b L k v ≤ bfT b L k (aF b ((bfR b L k).2 v)) → (bfR b L k).1 (aF b ((bfR b L k).2 v)) + aC ((bfR b L k).2 v) + 1 ≤ (bfR b L k).1 v)
theorem bf_inv : ∀ k, BfInv b L k
  | 0 => ⟨fun a ha => .inl rfl, fun v hv => absurd hv (Nat.lt_irrefl _)⟩
  | k + 1 => by
    have ih := bf_inv k
    have st := bf_step (b := b) (L := L) k
    have hT : ∀ v, bfT b L (k + 1) v = if (bfR b L (k + 1)).1 v < (bfR b L k).1 v then k + 1 else bfT b L k v := fun v => rfl
    refine ⟨fun a ha => ?_, fun v hv => ?_⟩
    · have h1 := st.ok a ha
      have h2 := st.le (aF b a)
      rw [hT]
      by_cases c : (bfR b L (k + 1)).1 (aF b a) < (bfR b L k).1 (aF b a)
      · rw [if_pos c]; exact .inr (.inl rfl)
      · exact .inr (.inr (by omega))
    · rw [hT] at hv
      by_cases c : (bfR b L (k + 1)).1 v < (bfR b L k).1 v
      · rcases st.how v with ⟨h1, _⟩ | ⟨h1, h2, h3, h4⟩
        · omega
        generalize (bfR b L (k + 1)).2 v = a at *
        have hu := st.le (aF b a)
        have hTv := hT v
        rw [if_pos c] at hTv
        have hTu := hT (aF b a)
        have hbt := bfT_le (b := b) (L := L) (aF b a) k
        have hfe := ih.fe a h2
        rw [h3] at hfe
        refine ⟨h2, h3, ?_, by omega, fun hle => ?_⟩
        · rw [hTv, hTu]
          rcases hfe with rfl | h | h
          · omega
          · split <;> omega
          · omega
        · rw [hTv, hTu] at hle
          split at hle
          · omega
          · omega
      · rw [if_neg c] at hv
        rcases st.how v with ⟨h1, h2⟩ | ⟨h1, _⟩
        case inr => omega
        obtain ⟨k1, k2, k3, k4, k5⟩ := ih.arc v hv
        rw [h2]
        generalize (bfR b L k).2 v = a at *
        have hTv := hT v
        rw [if_neg c] at hTv
        have hTu := hT (aF b a)
        have hu := st.le (aF b a)
        have hbt := bfT_le (b := b) (L := L) (aF b a) k
        have hbv := bfT_le (b := b) (L := L) v k
        refine ⟨k1, k2, ?_, by omega, fun hle => ?_⟩
        · rw [hTv, hTu]; split <;> omega
        · rw [hTv, hTu] at hle
          split at hle
          · omega
          · have := k5 hle
            omega
theorem bf_neg (k v : Nat) : (bfR b L k).1 v ≤ 0 := by
  induction k with
  | zero => exact Int.le_refl _
  | succ k ih => have := (bf_step (b := b) (L := L) k).le v; omega
theorem bf_low (k v : Nat) : -(k : Int) ≤ (bfR b L k).1 v := by
  induction k generalizing v with
  | zero => exact Int.le_refl _
  | succ k ih =>
    rcases (bf_step (b := b) (L := L) k).how v with ⟨h1, _⟩ | ⟨_, _, _, h4⟩
    · have := ih v; omega
    · have := ih (aF b ((bfR b L (k + 1)).2 v))
      have : -1 ≤ aC ((bfR b L (k + 1)).2 v) := by unfold aC; split <;> omega
      omega
theorem bf_max {p : Nat → Int} (h0 : ∀ v, p v ≤ 0) (hp : ∀ a ∈ L, p (aT b a) ≤ p (aF b a) + aC a) (k v : Nat) : p v ≤ (bfR b L k).1 v := by
  induction k generalizing v with
  | zero => exact h0 v
  | succ k ih =>
    rcases (bf_step (b := b) (L := L) k).how v with ⟨h1, _⟩ | ⟨_, h2, h3, h4⟩
    · have := ih v; omega
    · have := ih (aF b ((bfR b L (k + 1)).2 v))
      have := hp _ h2
      rw [h3] at this
      omega
theorem bf_height {H k : Nat} (hend : ∀ a ∈ L, aF b a < H ∧ aT b a < H) (hst : ∀ a ∈ L, (bfR b L k).1 (aT b a) ≤ (bfR b L k).1 (aF b a) + aC a) {v : Nat} (hv : v < H) : -((H : Int) - 1) ≤ (bfR b L k).1 v := by
  have hl : ∀ t : Nat, (bfR b L k).1 v ≤ -(t : Int) → ∃ u, u < H ∧ (bfR b L k).1 u = -(t : Int) := fun t ht => by
    by_cases ex : ∃ u, u < H ∧ (bfR b L k).1 u = -(t : Int)
    · exact ex
    have hne : ∀ u, u < H → (bfR b L k).1 u ≠ -(t : Int) := fun u hu e => ex ⟨u, hu, e⟩
    have := bf_max (b := b) (L := L) (p := fun u => if (bfR b L k).1 u < -(t : Int) then (bfR b L k).1 u + 1 else (bfR b L k).1 u) (fun u => by
      have := bf_neg (b := b) (L := L) k u
      split <;> omega) (fun a ha => by
      have h1 := hst a ha
      have h2 := hne _ (hend a ha).1
      have : -1 ≤ aC a := by unfold aC; split <;> omega
      split <;> split <;> omega) k v
    have h3 := hne v hv
    rw [if_pos (by omega)] at this
    omega
  by_cases hc : -((H : Int) - 1) ≤ (bfR b L k).1 v
  · exact hc
  have hx : ∀ t : Nat, t < H + 1 → ∃ u, u < H ∧ (bfR b L k).1 u = -(t : Int) := fun t ht => hl t (by omega)
  have := pigeon H (H + 1) (fun t => if h : t < H + 1 then Classical.choose (hx t h) else 0) (fun t ht => by
    simp only [dif_pos ht]
    exact (Classical.choose_spec (hx t ht)).1) (fun t s ht hs => by
    simp only [dif_pos ht, dif_pos (show s < H + 1 by omega)]
    intro e
    have h1 := (Classical.choose_spec (hx t ht)).2
    have h2 := (Classical.choose_spec (hx s (by omega))).2
    rw [e, h1] at h2
    omega)
  omega
end
def itN (p : Nat → Nat) (v : Nat) : Nat → Nat
  | 0 => v
  | j + 1 => p (itN p v j)
theorem itN_shift {p : Nat → Nat} {v i j : Nat} (h : itN p v i = itN p v j) : ∀ t, itN p v (i + t) = itN p v (j + t)
  | 0 => h
  | t + 1 => by
    show p (itN p v (i + t)) = p (itN p v (j + t))
    rw [itN_shift h t]
theorem least {P : Nat → Prop} : ∀ n, P n → ∃ m, m ≤ n ∧ P m ∧ ∀ k, k < m → ¬ P k := fun n => by
  induction n using Nat.strongRecOn with
  | _ n ih =>
    intro h
    by_cases ex : ∃ k, k < n ∧ P k
    · obtain ⟨k, hk, hP⟩ := ex
      obtain ⟨m, h1, h2, h3⟩ := ih k hk hP
      exact ⟨m, by omega, h2, h3⟩
    · exact ⟨n, Nat.le_refl _, h, fun k hk hP => ex ⟨k, hk, hP⟩⟩
structure CycA (b : BookD) (L : List Arc) (arc : Nat → Arc) (c : Nat → Nat) (q : Nat) : Prop where
  pos : 1 ≤ q
  mem : ∀ m, m < q → arc m ∈ L
  to : ∀ m, m < q → aT b (arc m) = c m
  frm : ∀ m, m < q → aF b (arc m) = c (m + 1)
  back : c q = c 0
  ne : ∀ m k, m < q → k < m → c k ≠ c m
  cost : sumR q (fun m => aC (arc m)) < 0
theorem sumR_mono1 {n : Nat} {F G : Nat → Int} (h : ∀ i, i < n → F i + 1 ≤ G i) : sumR n F + n ≤ sumR n G := by
  induction n with
  | zero => exact Int.le_refl _
  | succ n ih => rw [sumR_succ, sumR_succ]; have := ih (fun i hi => h i (by omega)); have := h n (by omega); omega
theorem sumR_tele (F : Nat → Int) : ∀ n, sumR n (fun i => F i - F (i + 1)) = F 0 - F n
  | 0 => by show (0 : Int) = _; omega
  | n + 1 => by rw [sumR_succ, sumR_tele F n]; omega
theorem sumR_mul (x : Int) (F : Nat → Int) : ∀ n, sumR n (fun i => x * F i) = x * sumR n F
  | 0 => by show (0 : Int) = x * 0; rw [Int.mul_zero]
  | n + 1 => by rw [sumR_succ, sumR_succ, sumR_mul x F n, Int.mul_add]
theorem bf_walk {b : BookD} {L : List Arc} {H v0 : Nat} (h0 : (bfR b L (H + 1)).1 v0 < (bfR b L H).1 v0) (j : Nat) (hj : j ≤ H) :
    H + 1 ≤ bfT b L (H + 1) (itN (fun v => aF b ((bfR b L (H + 1)).2 v)) v0 j) + j := by
  induction j with
  | zero =>
    show H + 1 ≤ bfT b L (H + 1) v0
    unfold bfT
    rw [if_pos h0]
    exact Nat.le_refl _
  | succ j ih =>
    have h1 := ih (by omega)
    have h2 := ((bf_inv (b := b) (L := L) (H + 1)).arc _ (show 0 < bfT b L (H + 1) (itN (fun v => aF b ((bfR b L (H + 1)).2 v)) v0 j) by omega)).2.2.1
    show H + 1 ≤ bfT b L (H + 1) (aF b ((bfR b L (H + 1)).2 (itN (fun v => aF b ((bfR b L (H + 1)).2 v)) v0 j))) + (j + 1)
    omega
theorem bf_ring {b : BookD} {L : List Arc} {H v0 : Nat} (hend : ∀ a ∈ L, aF b a < H ∧ aT b a < H) (h0 : (bfR b L (H + 1)).1 v0 < (bfR b L H).1 v0) :
    (∀ t, 0 < bfT b L (H + 1) (itN (fun v => aF b ((bfR b L (H + 1)).2 v)) v0 t)) ∧
    ∃ q, q ≤ H ∧ CycA b L (fun m => (bfR b L (H + 1)).2 (itN (fun v => aF b ((bfR b L (H + 1)).2 v)) v0 (H + m))) (fun m => itN (fun v => aF b ((bfR b L (H + 1)).2 v)) v0 (H + m)) q := by
  have hw := bf_walk h0
  have hinv := bf_inv (b := b) (L := L) (H + 1)
  generalize hp : (fun v => aF b ((bfR b L (H + 1)).2 v)) = p at *
  have hpv : ∀ v, aF b ((bfR b L (H + 1)).2 v) = p v := fun v => by rw [← hp]
  have hlt : ∀ j, j ≤ H → itN p v0 j < H := fun j hj => by
    obtain ⟨k1, k2, _⟩ := hinv.arc _ (show 0 < bfT b L (H + 1) (itN p v0 j) by have := hw j hj; omega)
    have := (hend _ k1).2
    rw [k2] at this
    exact this
  obtain ⟨j, i, hj, hi, hij⟩ : ∃ j i, j ≤ H ∧ i < j ∧ itN p v0 i = itN p v0 j := by
    refine Classical.byContradiction fun hno => ?_
    have := pigeon H (H + 1) (itN p v0) (fun t ht => hlt t (by omega)) (fun t s ht hs e => hno ⟨t, s, by omega, hs, e⟩)
    omega
  have hper : ∀ m, i ≤ m → itN p v0 (m + (j - i)) = itN p v0 m := fun m hm => by
    have := itN_shift hij (m - i)
    rw [show i + (m - i) = m by omega, show j + (m - i) = m + (j - i) by omega] at this
    exact this.symm
  have hpos : ∀ t, 0 < bfT b L (H + 1) (itN p v0 t) := fun t => by
    induction t using Nat.strongRecOn with
    | _ t ih =>
      by_cases ht : t ≤ H
      · have := hw t ht; omega
      · have h1 := ih (t - (j - i)) (by omega)
        have h2 := hper (t - (j - i)) (by omega)
        rw [show t - (j - i) + (j - i) = t by omega] at h2
        rw [h2]; exact h1
  refine ⟨hpos, ?_⟩
  obtain ⟨q, hqle, ⟨hq1, hq2⟩, hqm⟩ := least (P := fun q => 1 ≤ q ∧ itN p v0 (H + q) = itN p v0 H) (j - i) ⟨by omega, hper H (by omega)⟩
  refine ⟨q, by omega, hq1, fun m hm => (hinv.arc _ (hpos _)).1, fun m hm => (hinv.arc _ (hpos _)).2.1, fun m hm => ?_, hq2, fun m k hm hk e => ?_, ?_⟩
  · show aF b ((bfR b L (H + 1)).2 _) = _
    rw [hpv]; rfl
  · have := itN_shift e (q - m)
    rw [show H + m + (q - m) = H + q by omega, hq2] at this
    exact hqm (k + (q - m)) (by omega) ⟨by omega, by rw [← this]; congr 1; omega⟩
  · -- the potentials fall around the ring
    have hs := sumR_mono1 (n := q) (F := fun m => 1000 * aC ((bfR b L (H + 1)).2 (itN p v0 (H + m))) * (H + 2)) (G := fun m => (1000 * (H + 2) * (bfR b L (H + 1)).1 (itN p v0 (H + m)) + bfT b L (H + 1) (itN p v0 (H + m))) - (1000 * (H + 2) * (bfR b L (H + 1)).1 (itN p v0 (H + (m + 1))) + bfT b L (H + 1) (itN p v0 (H + (m + 1))))) (fun m hm => by
      obtain ⟨k1, k2, k3, k4, k5⟩ := hinv.arc _ (hpos (H + m))
      rw [hpv] at k3 k4 k5
      have e : itN p v0 (H + (m + 1)) = p (itN p v0 (H + m)) := rfl
      rw [e]
      have b1 := bfT_le (b := b) (L := L) (itN p v0 (H + m)) (H + 1)
      have b2 := bfT_le (b := b) (L := L) (p (itN p v0 (H + m))) (H + 1)
      generalize (bfR b L (H + 1)).1 (p (itN p v0 (H + m))) = du at *
      generalize (bfR b L (H + 1)).1 (itN p v0 (H + m)) = dv at *
      generalize aC ((bfR b L (H + 1)).2 (itN p v0 (H + m))) = c at *
      generalize bfT b L (H + 1) (p (itN p v0 (H + m))) = tu at *
      generalize bfT b L (H + 1) (itN p v0 (H + m)) = tv at *
      obtain ⟨x, hx⟩ : ∃ x, dv - du - c = x := ⟨_, rfl⟩
      have hx0 : 0 ≤ x := by omega
      have hx1 : tv ≤ tu → 1 ≤ x := fun h => by have := k5 h; omega
      have e1 : 1000 * ((H : Int) + 2) * dv = 1000 * ((H : Int) + 2) * du + 1000 * ((H : Int) + 2) * c + 1000 * ((H : Int) + 2) * x := by
        rw [← Int.mul_add, ← Int.mul_add]; congr 1; omega
      have e2 : 1000 * c * ((H : Int) + 2) = 1000 * ((H : Int) + 2) * c := by
        rw [Int.mul_assoc, Int.mul_assoc, Int.mul_comm c]
      have e3 : 0 ≤ 1000 * ((H : Int) + 2) * x := Int.mul_nonneg (by omega) hx0
      by_cases h : tv ≤ tu
      · have e4 : 1000 * ((H : Int) + 2) * 1 ≤ 1000 * ((H : Int) + 2) * x := Int.mul_le_mul_of_nonneg_left (hx1 h) (by omega)
        show 1000 * c * ((H : Int) + 2) + 1 ≤ (1000 * ((H : Int) + 2) * dv + (tv : Int)) - (1000 * ((H : Int) + 2) * du + (tu : Int))
        omega
      · show 1000 * c * ((H : Int) + 2) + 1 ≤ (1000 * ((H : Int) + 2) * dv + (tv : Int)) - (1000 * ((H : Int) + 2) * du + (tu : Int))
        omega)
    have ht := sumR_tele (fun m => 1000 * ((H : Int) + 2) * (bfR b L (H + 1)).1 (itN p v0 (H + m)) + bfT b L (H + 1) (itN p v0 (H + m))) q
    simp only [Nat.add_zero] at ht
    rw [ht, hq2, Int.sub_self] at hs
    have he : sumR q (fun m => 1000 * aC ((bfR b L (H + 1)).2 (itN p v0 (H + m))) * ((H : Int) + 2)) = 1000 * ((H : Int) + 2) * sumR q (fun m => aC ((bfR b L (H + 1)).2 (itN p v0 (H + m)))) := by
      rw [← sumR_mul]
      exact sumR_congr fun i _ => by rw [Int.mul_assoc, Int.mul_assoc, Int.mul_comm (aC _)]
    rw [he] at hs
    refine Classical.byContradiction fun hn => ?_
    have : 0 ≤ 1000 * ((H : Int) + 2) * sumR q (fun m => aC ((bfR b L (H + 1)).2 (itN p v0 (H + m)))) := Int.mul_nonneg (by omega) (by omega)
    omega
end Go.Proofs.Ytlpknbneilgjkaa.R
end
section
namespace Go.Proofs.Ytlpknbneilgjkaa.R
open Go Go.RowKit Go.Tl
set_option linter.unusedVariables false
set_option linter.unusedSimpArgs false
def fL (cap off : Nat → Int) (a : Arc) : Int := if a.2 then off a.1 else cap a.1 - off a.1
structure OffF (b : BookD) (cap off : Nat → Int) : Prop where
  bd : ∀ i, i < b.cons.length → 0 ≤ off i ∧ off i ≤ cap i
  net : ∀ h, accN b.cons off b.cons.length h = 0
def psh (off : Nat → Int) (a : Arc) (x : Int) : Nat → Int := fun i => if i = a.1 then (if a.2 then off i - x else off i + x) else off i
def pshR (off : Nat → Int) (arc : Nat → Arc) (x : Int) : Nat → Nat → Int
  | 0 => off
  | m + 1 => psh (pshR off arc x m) (arc m) x
def eff (arc : Nat → Arc) (x : Int) (a : Arc) : Nat → Int
  | 0 => 0
  | m + 1 => eff arc x a m + if arc m = a then x else 0
theorem pshR_eff (off : Nat → Int) (arc : Nat → Arc) (x : Int) (i : Nat) : ∀ m, pshR off arc x m i = off i + eff arc x (i, false) m - eff arc x (i, true) m
  | 0 => by simp [pshR, eff]
  | m + 1 => by
    have ih := pshR_eff off arc x i m
    simp only [pshR, psh, eff]
    rcases h : arc m with ⟨j, t⟩
    by_cases c : i = j
    · subst c
      rw [if_pos rfl, ih]
      cases t
      · rw [if_pos (c := ((i, false) : Arc) = (i, false)) rfl, if_neg (c := ((i, false) : Arc) = (i, true)) (by simp)]
        simp; omega
      · rw [if_neg (c := ((i, true) : Arc) = (i, false)) (by simp), if_pos (c := ((i, true) : Arc) = (i, true)) rfl]
        simp; omega
    · rw [if_neg c, ih, if_neg (fun h => c (by cases h; rfl)), if_neg (fun h => c (by cases h; rfl))]
      omega
theorem eff_one {arc : Nat → Arc} {x : Int} {a : Arc} : ∀ m, (∀ j k, j < m → k < j → arc k ≠ arc j) → eff arc x a m = 0 ∨ (eff arc x a m = x ∧ ∃ j, j < m ∧ arc j = a)
  | 0, _ => .inl rfl
  | m + 1, h => by
    have ih := eff_one (x := x) (a := a) m (fun j k hj hk => h j k (by omega) hk)
    simp only [eff]
    by_cases c : arc m = a
    · rw [if_pos c]
      rcases ih with h0 | ⟨_, j, hj, e⟩
      · exact .inr ⟨by rw [h0]; omega, m, Nat.lt_succ_self _, c⟩
      · exact absurd (e.trans c.symm) (h m j (Nat.lt_succ_self _) hj)
    · rw [if_neg c, Int.add_zero]
      rcases ih with h0 | ⟨h1, j, hj, e⟩
      · exact .inl h0
      · exact .inr ⟨h1, j, by omega, e⟩
theorem pshR_bd {n : Nat} {cap off : Nat → Int} {arc : Nat → Arc} {x : Int} {q : Nat} (hbd : ∀ i, i < n → 0 ≤ off i ∧ off i ≤ cap i) (hx : 0 ≤ x) (hd : ∀ j k, j < q → k < j → arc k ≠ arc j) (hle : ∀ j, j < q → x ≤ fL cap off (arc j)) (i : Nat) (hi : i < n) :
    0 ≤ pshR off arc x q i ∧ pshR off arc x q i ≤ cap i := by
  have h0 := hbd i hi
  rw [pshR_eff]
  rcases eff_one (x := x) (a := (i, false)) q hd with h1 | ⟨h1, j, hj, e⟩ <;> rcases eff_one (x := x) (a := (i, true)) q hd with h2 | ⟨h2, j', hj', e'⟩
  · rw [h1, h2]; omega
  · have := hle j' hj'
    rw [e'] at this
    have : x ≤ off i := this
    rw [h1, h2]; omega
  · have := hle j hj
    rw [e] at this
    have : x ≤ cap i - off i := this
    rw [h1, h2]; omega
  · rw [h1, h2]; omega
theorem psh_fun (off : Nat → Int) (a : Arc) (x : Int) : psh off a x = fun i => off i + (if (a.1 : Int) = (i : Int) then (if a.2 then -x else x) else 0) := by
  funext i
  unfold psh
  by_cases c : i = a.1
  · subst c; rw [if_pos rfl, if_pos rfl]; cases a.2 <;> simp <;> omega
  · rw [if_neg c, if_neg (c := (a.1 : Int) = (i : Int)) (by omega)]; omega
theorem ite_cast {t : Int} (h0 : 0 ≤ t) (h : Nat) (v : Int) : (if t = (h : Int) then v else 0) = if t.toNat = h then v else 0 := by
  by_cases c : t = (h : Int)
  · rw [if_pos c, if_pos (by omega)]
  · rw [if_neg c, if_neg (by omega)]
theorem psh_acc {b : BookD} (hv : VBook b) (off : Nat → Int) {a : Arc} (ha : a.1 < b.cons.length) (x : Int) (h : Nat) :
    accN b.cons (psh off a x) b.cons.length h = accN b.cons off b.cons.length h + (if aT b a = h then x else 0) - (if aF b a = h then x else 0) := by
  rw [psh_fun, acc_add, acc_one, if_pos ha]
  have hf := hv.frm a.1 ha
  have ht := hv.to a.1 ha
  unfold aT aF
  rw [ite_cast hf.1, ite_cast ht.1]
  cases hb : a.2
  · simp only [Bool.false_eq_true, if_false]
    split <;> split <;> omega
  · simp only [if_true]
    split <;> split <;> omega
theorem pshR_acc {b : BookD} (hv : VBook b) (off : Nat → Int) {arc : Nat → Arc} {c : Nat → Nat} {q : Nat} (x : Int) (h : Nat) (hi : ∀ m, m < q → (arc m).1 < b.cons.length) (ht : ∀ m, m < q → aT b (arc m) = c m) (hf : ∀ m, m < q → aF b (arc m) = c (m + 1)) :
    ∀ m, m ≤ q → accN b.cons (pshR off arc x m) b.cons.length h = accN b.cons off b.cons.length h + (if c 0 = h then x else 0) - (if c m = h then x else 0)
  | 0, _ => by simp only [pshR]; omega
  | m + 1, hm => by
    have ih := pshR_acc hv off x h hi ht hf m (by omega)
    simp only [pshR]
    rw [psh_acc hv _ (hi m (by omega)), ih, ht m (by omega), hf m (by omega)]
    omega
theorem sumR_psh (off : Nat → Int) (a : Arc) (x : Int) : ∀ n, sumR n (psh off a x) = sumR n off + if a.1 < n then (if a.2 then -x else x) else 0
  | 0 => by simp [sumR, sumI]
  | n + 1 => by
    rw [sumR_succ, sumR_succ, sumR_psh off a x n]
    unfold psh
    by_cases c : n = a.1
    · subst c
      rw [if_neg (Nat.lt_irrefl _), if_pos rfl, if_pos (Nat.lt_succ_self _)]
      split <;> omega
    · rw [if_neg c]
      by_cases c2 : a.1 < n
      · rw [if_pos c2, if_pos (c := a.1 < n + 1) (by omega)]; omega
      · rw [if_neg c2, if_neg (c := a.1 < n + 1) (by omega)]; omega
theorem sumR_pshR (off : Nat → Int) {arc : Nat → Arc} {n q : Nat} (x : Int) (hi : ∀ m, m < q → (arc m).1 < n) : ∀ m, m ≤ q → sumR n (pshR off arc x m) = sumR n off - x * sumR m (fun j => aC (arc j))
  | 0, _ => by simp [pshR, sumR, sumI]
  | m + 1, hm => by
    simp only [pshR]
    rw [sumR_psh, sumR_pshR off x hi m (by omega), if_pos (hi m (by omega)), sumR_succ, Int.mul_add]
    unfold aC
    split
    · rw [Int.mul_one]; omega
    · rw [show x * (-1 : Int) = -x by omega]; omega
theorem cyc_off {b : BookD} (hv : VBook b) {cap off : Nat → Int} {arc : Nat → Arc} {c : Nat → Nat} {q : Nat} {x : Int} (ho : OffF b cap off) (hc : CycA b (arcsL (fL cap off) b.cons.length) arc c q) (hx : 1 ≤ x) (hle : ∀ j, j < q → x ≤ fL cap off (arc j)) :
    OffF b cap (pshR off arc x q) ∧ sumR b.cons.length off + 1 ≤ sumR b.cons.length (pshR off arc x q) := by
  have hi : ∀ m, m < q → (arc m).1 < b.cons.length := fun m hm => (mem_arcs.1 (hc.mem m hm)).1
  have hne : ∀ j k, j < q → k < j → arc k ≠ arc j := fun j k hj hk e => hc.ne j k hj hk (by rw [← hc.to j hj, ← hc.to k (by omega), e])
  refine ⟨⟨fun i hi' => pshR_bd ho.bd (by omega) hne hle i hi', fun h => ?_⟩, ?_⟩
  · rw [pshR_acc hv off x h hi hc.to hc.frm q (Nat.le_refl _), ho.net, hc.back]; omega
  · rw [sumR_pshR off x hi q (Nat.le_refl _)]
    have h1 := hc.cost
    have h2 : x * sumR q (fun m => aC (arc m)) ≤ x * (-1) := Int.mul_le_mul_of_nonneg_left (by omega) (by omega)
    omega
/-! ### Heights -/
def provF (b : BookD) (hs : Nat → Int) : Nat → Int
  | 0 => 0
  | k + 1 => provF b hs k + (b.cons.getD k default).num * max 0 (1 + hs (b.cons.getD k default).frm.toNat - hs (b.cons.getD k default).to.toNat)
theorem wsum {b : BookD} (hv : VBook b) (off hs : Nat → Int) : ∀ k, k ≤ b.cons.length → sumR k (fun i => off i * (hs (b.cons.getD i default).to.toNat - hs (b.cons.getD i default).frm.toNat)) = sumR b.houses.toNat (fun h => hs h * accN b.cons off k h)
  | 0, _ => by
    have : (fun h : Nat => hs h * accN b.cons off 0 h) = fun _ => 0 := by funext h; simp [accN]
    rw [this, sumR_zero]; rfl
  | k + 1, hk => by
    have hf := hv.frm k (by omega)
    have ht := hv.to k (by omega)
    have e1 : (fun h : Nat => hs h * accN b.cons off (k + 1) h) = fun h : Nat => hs h * accN b.cons off k h + (if (b.cons.getD k default).to = (h : Int) then off k * hs (b.cons.getD k default).to.toNat else 0) - (if (b.cons.getD k default).frm = (h : Int) then off k * hs (b.cons.getD k default).frm.toNat else 0) := by
      funext h
      simp only [accN]
      rw [Int.mul_sub, Int.mul_add]
      congr 1
      · congr 1
        by_cases c : (b.cons.getD k default).to = (h : Int)
        · rw [if_pos c, if_pos c, Int.mul_comm, c, Int.toNat_natCast]
        · rw [if_neg c, if_neg c, Int.mul_zero]
      · by_cases c : (b.cons.getD k default).frm = (h : Int)
        · rw [if_pos c, if_pos c, Int.mul_comm, c, Int.toNat_natCast]
        · rw [if_neg c, if_neg c, Int.mul_zero]
    rw [sumR_succ, wsum hv off hs k (by omega), e1, sumR_sub, sumR_add, sumR_one ht.1 (by omega), sumR_one hf.1 (by omega), Int.mul_sub]
    omega
theorem prov_sum (b : BookD) (hs : Nat → Int) : ∀ k, provF b hs k = sumR k (fun i => (b.cons.getD i default).num * max 0 (1 + hs (b.cons.getD i default).frm.toNat - hs (b.cons.getD i default).to.toNat))
  | 0 => rfl
  | k + 1 => by rw [sumR_succ, ← prov_sum b hs k]; rfl
theorem off_sum {b : BookD} (hv : VBook b) {off : Nat → Int} (hn : ∀ h, accN b.cons off b.cons.length h = 0) (hs : Nat → Int) :
    sumR b.cons.length off = sumR b.cons.length (fun i => off i * (1 + hs (b.cons.getD i default).frm.toNat - hs (b.cons.getD i default).to.toNat)) := by
  have h1 := wsum hv off hs b.cons.length (Nat.le_refl _)
  have h2 : (fun h : Nat => hs h * accN b.cons off b.cons.length h) = fun _ => 0 := by funext h; rw [hn, Int.mul_zero]
  rw [h2, sumR_zero] at h1
  have h3 : sumR b.cons.length (fun i => off i * (1 + hs (b.cons.getD i default).frm.toNat - hs (b.cons.getD i default).to.toNat)) = sumR b.cons.length (fun i => off i - off i * (hs (b.cons.getD i default).to.toNat - hs (b.cons.getD i default).frm.toNat)) :=
    sumR_congr fun i _ => by
      rw [show (1 : Int) + hs (b.cons.getD i default).frm.toNat - hs (b.cons.getD i default).to.toNat = 1 - (hs (b.cons.getD i default).to.toNat - hs (b.cons.getD i default).frm.toNat) by omega, Int.mul_sub, Int.mul_one]
  rw [h3, sumR_sub, h1]
  omega
theorem weak_dual {b : BookD} (hv : VBook b) {off : Nat → Int} (ho : OffF b (numF b) off) (hs : Nat → Int) : sumR b.cons.length off ≤ provF b hs b.cons.length := by
  rw [off_sum hv ho.net hs, prov_sum]
  refine sumR_le fun i hi => ?_
  have h1 := ho.bd i hi
  generalize 1 + hs (b.cons.getD i default).frm.toNat - hs (b.cons.getD i default).to.toNat = y
  have h2 : off i ≤ (b.cons.getD i default).num := h1.2
  have h3 : off i * y ≤ off i * max 0 y := Int.mul_le_mul_of_nonneg_left (by omega) h1.1
  have h4 : off i * max 0 y ≤ (b.cons.getD i default).num * max 0 y := Int.mul_le_mul_of_nonneg_right h2 (by omega)
  omega
theorem strong_dual {b : BookD} (hv : VBook b) {off d : Nat → Int} (ho : OffF b (numF b) off) (hst : ∀ a ∈ arcsL (fL (numF b) off) b.cons.length, d (aT b a) ≤ d (aF b a) + aC a) : provF b (fun v => -(d v)) b.cons.length = sumR b.cons.length off := by
  rw [off_sum hv ho.net (fun v => -(d v)), prov_sum]
  refine sumR_congr fun i hi => ?_
  have h1 := ho.bd i hi
  have e1 : i < b.cons.length → off i < numF b i → d (b.cons.getD i default).to.toNat ≤ d (b.cons.getD i default).frm.toNat + (-1) := fun h1 h2 => hst (i, false) (mem_arcs.2 ⟨h1, by show 0 < numF b i - off i; omega⟩)
  have e2 : i < b.cons.length → 0 < off i → d (b.cons.getD i default).frm.toNat ≤ d (b.cons.getD i default).to.toNat + 1 := fun h1 h2 => hst (i, true) (mem_arcs.2 ⟨h1, by show 0 < off i; omega⟩)
  have hn : numF b i = (b.cons.getD i default).num := rfl
  have hn1 := hv.num i hi
  generalize d (b.cons.getD i default).to.toNat = dt at *
  generalize d (b.cons.getD i default).frm.toNat = df at *
  rw [hn] at h1 e1
  generalize (b.cons.getD i default).num = n at *
  generalize off i = o at *
  show n * max 0 (1 + -df - -dt) = o * (1 + -df - -dt)
  by_cases c : o < n
  · have h2 := e1 hi c
    rw [show max 0 (1 + -df - -dt) = 0 by omega, Int.mul_zero]
    by_cases c2 : 0 < o
    · have h3 := e2 hi c2
      rw [show 1 + -df - -dt = 0 by omega, Int.mul_zero]
    · rw [show o = 0 by omega, Int.zero_mul]
  · have h3 := e2 hi (by omega)
    rw [show o = n by omega, show max 0 (1 + -df - -dt) = 1 + -df - -dt by omega]
end Go.Proofs.Ytlpknbneilgjkaa.R
end
section
namespace Go.Proofs.Ytlpknbneilgjkaa.R
open Go Go.RowKit Go.Tl
set_option linter.unusedVariables false
set_option linter.unusedSimpArgs false
def arrI (d : Nat → Int) (n : Nat) : List AV := (List.range n).map fun i => intA (d i)
theorem arrI_len (d : Nat → Int) (n : Nat) : (arrI d n).length = n := by simp [arrI]
theorem arrI_at {d : Nat → Int} {n k : Nat} (h : k < n) : (arrI d n)[k]? = some (intA (d k)) := by simp [arrI, h]
theorem arrI_set {d d' : Nat → Int} {n k : Nat} {v : Int} (h : k < n) (hd : ∀ q, q < n → d' q = if q = k then v else d q) : spA (arrI d n) k [intA v] = arrI d' n := by
  have e : spA (arrI d n) k [intA v] = (arrI d n).set k (intA v) := by
    unfold spA
    rw [List.set_eq_take_append_cons_drop, if_pos (by rw [arrI_len]; exact h)]
    simp
  rw [e]
  refine List.ext_getElem? fun j => ?_
  rw [List.getElem?_set]
  by_cases hj : j < n
  · rw [arrI_at (d := d') hj, hd j hj]
    by_cases c : k = j
    · subst c; rw [if_pos rfl, if_pos (by rw [arrI_len]; exact h), if_pos rfl]
    · rw [if_neg c, if_neg (fun h => c h.symm), arrI_at hj]
  · rw [List.getElem?_eq_none (l := arrI d' n) (by rw [arrI_len]; omega), List.getElem?_eq_none (l := arrI d n) (by rw [arrI_len]; omega)]
    rw [if_neg (by omega)]
def arrA (bb : Nat → Arc) : Nat → List AV
  | 0 => []
  | n + 1 => arrA bb n ++ [intA ((bb n).1 : Nat), boolA (bb n).2]
theorem arrA_len (bb : Nat → Arc) : ∀ n, (arrA bb n).length = n * 2
  | 0 => rfl
  | n + 1 => by rw [arrA, List.length_append, arrA_len bb n]; simp; omega
theorem arrA_at {bb : Nat → Arc} {k : Nat} : ∀ {n : Nat}, k < n → ((arrA bb n).drop (k * 2)).take 2 = [intA ((bb k).1 : Nat), boolA (bb k).2]
  | 0, h => absurd h (Nat.not_lt_zero _)
  | n + 1, h => by
    by_cases c : k < n
    · rw [arrA, List.drop_append_of_le_length (by rw [arrA_len]; omega), List.take_append_of_le_length (by rw [List.length_drop, arrA_len]; omega)]
      exact arrA_at c
    · obtain rfl : k = n := by omega
      rw [arrA, List.drop_append, arrA_len]
      simp [List.drop_eq_nil_of_le, arrA_len]
theorem arrA_set {bb bb' : Nat → Arc} {k : Nat} {a : Arc} : ∀ {n : Nat}, k < n → (∀ q, q < n → bb' q = if q = k then a else bb q) → spA (arrA bb n) (k * 2) [intA (a.1 : Nat), boolA a.2] = arrA bb' n
  | 0, h, _ => absurd h (Nat.not_lt_zero _)
  | n + 1, h, hd => by
    by_cases c : k < n
    · have ih := arrA_set (bb := bb) (bb' := bb') (a := a) c (fun q hq => hd q (by omega))
      have e := hd n (by omega)
      rw [if_neg (by omega)] at e
      rw [arrA, arrA, e, ← ih]
      unfold spA
      rw [List.take_append_of_le_length (by rw [arrA_len]; omega), List.drop_append_of_le_length (by rw [arrA_len]; simp; omega)]
      simp
    · obtain rfl : k = n := by omega
      have e := hd k (by omega)
      rw [if_pos rfl] at e
      rw [arrA, arrA, e]
      have hsame : arrA bb' k = arrA bb k := by
        have : ∀ m, m ≤ k → arrA bb' m = arrA bb m := fun m hm => by
          induction m with
          | zero => rfl
          | succ m ih =>
            have := hd m (by omega)
            rw [if_neg (by omega)] at this
            rw [arrA, arrA, ih (by omega), this]
        exact this k (Nat.le_refl _)
      rw [hsame]
      unfold spA
      rw [List.take_append, arrA_len, Nat.sub_self, List.take_zero, List.append_nil, List.take_of_length_le (by rw [arrA_len]; omega), List.drop_eq_nil_of_le (by rw [List.length_append, arrA_len]; simp)]
      simp
theorem ldA_arrA {bb : Nat → Arc} {k n : Nat} (h : k < n) : ldA true 2 ((arrA bb n).drop (k * 2)) = .ag [intA ((bb k).1 : Nat), boolA (bb k).2] := by
  unfold ldA
  rw [if_pos rfl, arrA_at h]
section
variable {P : Program} {N : Nat} {o : Oper} {md : Nat → Prop} {s : Slots} {h : List Ent} {K : Slots → List Ent → Prop}
theorem st_arrI (T : TT P) {t g k n : Nat} {x y : Operand} {v : Int} {T' : TypeId} {d d' : Nat → Int} {h' : List Ent} (ho : o.op = .store t x y) (hx : evA s x = some (.v (.pointer (some ⟨g, k, none⟩)))) (hy : evA s y = some (intA v))
    (ht : f2 T.siz t = some (1, false)) (hd : o.dst = none) (hp : Repl h (.cl g T' (arrI d n)) (.cl g T' (arrI d' n)) h') (hk : k < n) (hd' : ∀ q, q < n → d' q = if q = k then v else d q) (hmd : md g)
    (hK : K s h') : AOp P N o md s h K := aop_store T ho hx hy ht rfl rfl rfl hd hp (by rw [arrI_len]; omega) (arrI_set hk hd') hmd hK
theorem st_arrA (T : TT P) {t g k n : Nat} {x y : Operand} {a : Arc} {T' : TypeId} {bb bb' : Nat → Arc} {h' : List Ent} (ho : o.op = .store t x y) (hx : evA s x = some (.v (.pointer (some ⟨g, k * 2, none⟩)))) (hy : evA s y = some (.ag [intA (a.1 : Nat), boolA a.2]))
    (ht : f2 T.siz t = some (2, true)) (hd : o.dst = none) (hp : Repl h (.cl g T' (arrA bb n)) (.cl g T' (arrA bb' n)) h') (hk : k < n) (hd' : ∀ q, q < n → bb' q = if q = k then a else bb q) (hmd : md g)
    (hK : K s h') : AOp P N o md s h K := aop_store T ho hx hy ht rfl rfl rfl hd hp (by rw [arrA_len]; omega) (arrA_set hk hd') hmd hK
theorem lv_arrA (T : TT P) {t g k n : Nat} {x : Operand} {T' : TypeId} {bb : Nat → Arc} (ho : o.op = .load t x) (hx : evA s x = some (.v (.pointer (some ⟨g, k * 2, none⟩)))) (ht : f2 T.siz t = some (2, true))
    (hm : Mem1 (.cl g T' (arrA bb n)) h) (hk : k < n) : LV P o s h (some (.cl g T' (arrA bb n))) (.ag [intA ((bb k).1 : Nat), boolA (bb k).2]) := by
  have h1 := lv_cl T ho hx ht hm (by rw [arrA_len]; omega) (.inl rfl)
  rwa [ldA_arrA hk] at h1
end
end Go.Proofs.Ytlpknbneilgjkaa.R
end
