/- Sales: the one that sells dear stocks first needs the fewest shares; the greatest proceeds of so many shares. -/
import Derived.Test.YtfiacjdkdjkiiaaSq
namespace Go.Proofs.Ytfiacjdkdjkiiaa
open Go Go.RowKit
set_option linter.unusedVariables false
set_option linter.unusedSimpArgs false
/-- a sale of some of the shares -/
def SaleOf (sh v : List Int) : Prop := v.length = sh.length ∧ ∀ i, i < sh.length → 0 ≤ v.getD i 0 ∧ v.getD i 0 ≤ sh.getD i 0
theorem SaleOf.sum {sh v : List Int} (h : SaleOf sh v) : 0 ≤ sumI v ∧ sumI v ≤ sumI sh := by
  obtain ⟨hl, h⟩ := h
  induction sh generalizing v with
  | nil => rw [List.length_eq_zero_iff.1 hl]; simp [sumI]
  | cons x sh ih =>
    cases v with
    | nil => simp at hl
    | cons y v =>
      have h0 := h 0 (by simp)
      have h1 := ih (v := v) (by simpa using hl) (fun i hi => by simpa using h (i + 1) (by simpa using hi))
      simp only [List.getD_cons_zero] at h0
      simp only [sumI]; omega
theorem top_diff {c : Int} : ∀ (sh v s p : List Int), v.length = sh.length → s.length = sh.length → p.length = sh.length →
    (∀ i, i < sh.length → (0 ≤ s.getD i 0 ∧ s.getD i 0 ≤ sh.getD i 0) ∧ (v.getD i 0 < sh.getD i 0 → p.getD i 0 ≤ c) ∧ (0 < v.getD i 0 → c ≤ p.getD i 0)) → c * (sumI v - sumI s) ≤ dot v p - dot s p
  | [], v, s, p, h1, h2, h3, _ => by
    rw [List.length_eq_zero_iff.1 h1, List.length_eq_zero_iff.1 h2]; simp [sumI, dot]
  | x :: sh, [], s, p, h1, _, _, _ => by simp at h1
  | x :: sh, y :: v, [], p, _, h2, _, _ => by simp at h2
  | x :: sh, y :: v, z :: s, [], _, _, h3, _ => by simp at h3
  | x :: sh, y :: v, z :: s, q :: p, h1, h2, h3, h => by
    have h0 := h 0 (by simp)
    have ih := top_diff sh v s p (by simpa using h1) (by simpa using h2) (by simpa using h3) (fun i hi => by simpa using h (i + 1) (by simpa using hi))
    simp only [List.getD_cons_zero] at h0
    obtain ⟨⟨h4, h5⟩, h6, h7⟩ := h0
    have hm : 0 ≤ (y - z) * (q - c) := by
      rcases Int.lt_trichotomy y z with hyz | hyz | hyz
      · exact Int.mul_nonneg_of_nonpos_of_nonpos (by omega) (by have := h6 (by omega); omega)
      · simp [hyz]
      · exact Int.mul_nonneg (by omega) (by have := h7 (by omega); omega)
    rw [Int.sub_mul, Int.mul_sub, Int.mul_sub] at hm
    simp only [sumI, dot]
    have e1 : c * (y + sumI v - (z + sumI s)) = y * c - z * c + c * (sumI v - sumI s) := by
      rw [show y + sumI v - (z + sumI s) = (y - z) + (sumI v - sumI s) by omega, Int.mul_add, Int.mul_sub, Int.mul_comm c y, Int.mul_comm c z]
    omega
theorem top_best {c : Int} {sh v s p : List Int} (h0 : 0 ≤ c) (hv : v.length = sh.length) (hs : SaleOf sh s) (hp : p.length = sh.length) (hle : sumI s ≤ sumI v)
    (h : ∀ i, i < sh.length → (v.getD i 0 < sh.getD i 0 → p.getD i 0 ≤ c) ∧ (0 < v.getD i 0 → c ≤ p.getD i 0)) : dot s p ≤ dot v p := by
  have h1 := top_diff (c := c) sh v s p hv hs.1 hp (fun i hi => ⟨hs.2 i hi, h i hi⟩)
  have h2 : 0 ≤ c * (sumI v - sumI s) := Int.mul_nonneg h0 (by omega)
  omega
theorem resB_mono {d val m x y : Int} (hm : 0 ≤ m) (hxy : x ≤ y) (h : resB d val m x = true) : resB d val m y = true := by
  simp only [resB, decide_eq_true_eq] at h ⊢
  rcases h with h | h
  · left; omega
  · right
    have h2 : 0 ≤ (y - x) * m := Int.mul_nonneg (by omega) hm
    have e : (d - y) * (100 + m) = (d - x) * (100 + m) - (y - x) * 100 - (y - x) * m := by
      rw [show d - y = (d - x) - (y - x) by omega, Int.sub_mul, Int.mul_add (y - x)]; omega
    omega
theorem resB_anti {d val m x y : Int} (hm : 0 ≤ m) (hxy : x ≤ y) (h : resB d val m y = false) : resB d val m x = false := by
  cases h1 : resB d val m x
  · rfl
  · rw [resB_mono hm hxy h1] at h; cases h
theorem full_best {sh s p : List Int} (hs : SaleOf sh s) (hp : p.length = sh.length) (hp0 : ∀ x ∈ p, 0 ≤ x) : dot s p ≤ dot sh p :=
  top_best (c := 0) (Int.le_refl _) rfl hs hp hs.sum.2 (fun i hi => ⟨fun h => absurd h (by omega), fun _ => hp0 _ (getD_mem (by omega))⟩)
theorem sum_set {l : List Int} {k : Nat} {x : Int} (h : k < l.length) : sumI (l.set k x) = sumI l - l.getD k 0 + x := by
  induction l generalizing k with
  | nil => simp at h
  | cons y l ih =>
    cases k with
    | zero => simp [sumI]; omega
    | succ k =>
      have := ih (k := k) (by simpa using h)
      simp only [List.set_cons_succ, sumI, List.getD_cons_succ]; omega
theorem sale_zero {sh : List Int} (h : ∀ x ∈ sh, 0 ≤ x) : SaleOf sh (List.replicate sh.length 0) := ⟨by simp, fun i hi => by
  have := h _ (getD_mem (d := (0 : Int)) hi)
  have e : (List.replicate sh.length (0 : Int)).getD i 0 = 0 := by simp [List.getD_eq_getElem?_getD, hi]
  omega⟩
theorem sum_zero (n : Nat) : sumI (List.replicate n 0) = 0 := by
  induction n with
  | zero => rfl
  | succ n ih => simp [List.replicate_succ, sumI, ih]

theorem set_at {l : List Int} {k : Nat} {x : Int} (hk : k < l.length) : (l.set k x).getD k 0 = x := by simp [List.getD_eq_getElem?_getD, hk]
theorem set_ne {l : List Int} {k j : Nat} {x : Int} (h : j ≠ k) : (l.set k x).getD j 0 = l.getD j 0 := by simp [List.getD_eq_getElem?_getD, List.getElem?_set, Ne.symm h]
theorem rep_at {n j : Nat} : (List.replicate n (0 : Int)).getD j 0 = 0 := by
  rw [List.getD_eq_getElem?_getD, List.getElem?_replicate]
  split <;> rfl
theorem int_at {l : List Int} {i : Nat} (h : i < l.length) : l.getD i 0 = l[i] := by simp [List.getD_eq_getElem?_getD, h]
/-! ### the sale, stock by stock -/
def SellI (sh p : List Int) (res : Int → Bool) (ys : List Int) (k : Nat) (sold : List Int) : Prop :=
  SaleOf sh sold ∧ (∀ j, j < k → sold.getD (ys.getD j 0).toNat 0 = sh.getD (ys.getD j 0).toNat 0) ∧ (∀ j, k ≤ j → j < sh.length → sold.getD (ys.getD j 0).toNat 0 = 0) ∧ (0 < k → res (dot sold p) = false)
/-- all stocks in some order -/
def Order (n : Nat) (ys : List Int) : Prop := ys.length = n ∧ (∀ j, j < n → 0 ≤ ys.getD j 0 ∧ ys.getD j 0 < n) ∧ (∀ a, a < n → ∃ j, j < n ∧ ys.getD j 0 = a) ∧ ∀ i j, i < n → j < n → ys.getD i 0 = ys.getD j 0 → i = j
theorem order_of {n : Nat} {ys : List Int} (h : ys.Perm ((List.range n).map Int.ofNat)) : Order n ys := by
  have hl : ys.length = n := by simpa using h.length_eq
  have hnd : ys.Nodup := h.nodup_iff.2 (List.pairwise_map.2 (List.nodup_range.imp fun hne e => hne (Int.ofNat.inj e)))
  refine ⟨hl, fun j hj => ?_, fun a ha => ?_, fun i j hi hj e => ?_⟩
  · have hm := h.mem_iff.1 (getD_mem (d := (0 : Int)) (show j < ys.length by omega))
    simp only [List.mem_map, List.mem_range] at hm
    obtain ⟨a, ha, e⟩ := hm
    rw [← e]; simp only [Int.ofNat_eq_natCast]; omega
  · have hm : (a : Int) ∈ ys := h.mem_iff.2 (List.mem_map.2 ⟨a, List.mem_range.2 ha, rfl⟩)
    obtain ⟨j, hj, e⟩ := List.getElem_of_mem hm
    exact ⟨j, by omega, by simp [List.getD_eq_getElem?_getD, hj, e]⟩
  · have hi' : i < ys.length := by omega
    have hj' : j < ys.length := by omega
    simp only [List.getD_eq_getElem?_getD, List.getElem?_eq_getElem hi', List.getElem?_eq_getElem hj', Option.getD_some] at e
    exact (List.getElem_inj hnd).1 e
/-- what a sale comes to -/
def SellR (sh p : List Int) (res : Int → Bool) (sold : List Int) : Prop := SaleOf sh sold ∧ res (dot sold p) = true ∧ ∀ s, SaleOf sh s → sumI s < sumI sold → res (dot s p) = false
def NoSell (sh p : List Int) (res : Int → Bool) : Prop := ∀ s, SaleOf sh s → res (dot s p) = false
section
variable {sh p ys : List Int} {res : Int → Bool} {k : Nat} {sold : List Int}
theorem sell_start (h : ∀ x ∈ sh, 0 ≤ x) (hy : Order sh.length ys) : SellI sh p res ys 0 (List.replicate sh.length 0) := by
  refine ⟨sale_zero h, fun j hj => absurd hj (Nat.not_lt_zero _), fun j _ hj => ?_, fun h => absurd h (Nat.lt_irrefl _)⟩
  exact rep_at
theorem sell_step (hI : SellI sh p res ys k sold) (hy : Order sh.length ys) (hk : k < sh.length) (hr : res (dot (sold.set (ys.getD k 0).toNat (sh.getD (ys.getD k 0).toNat 0)) p) = false) :
    SellI sh p res ys (k + 1) (sold.set (ys.getD k 0).toNat (sh.getD (ys.getD k 0).toNat 0)) := by
  obtain ⟨h1, h2, h3, h4⟩ := hI
  have hb := hy.2.1 k hk
  have hne : ∀ j, j < sh.length → j ≠ k → (ys.getD j 0).toNat ≠ (ys.getD k 0).toNat := fun j hj hjk e => by
    have hb2 := hy.2.1 j hj
    exact hjk (hy.2.2.2 j k hj hk (by omega))
  have hset : ∀ j x, j < sh.length → j ≠ k → (sold.set (ys.getD k 0).toNat x).getD (ys.getD j 0).toNat 0 = sold.getD (ys.getD j 0).toNat 0 := fun j x hj hjk => set_ne (hne j hj hjk)
  have hself : ∀ x, (sold.set (ys.getD k 0).toNat x).getD (ys.getD k 0).toNat 0 = x := fun x => set_at (by rw [h1.1]; omega)
  refine ⟨⟨by simpa using h1.1, fun i hi => ?_⟩, fun j hj => ?_, fun j hj hjn => ?_, fun _ => hr⟩
  · obtain ⟨j, hj, e⟩ := hy.2.2.1 i hi
    have e' : i = (ys.getD j 0).toNat := by omega
    rw [e']
    by_cases hjk : j = k
    · subst hjk; rw [hself]; have := h1.2 (ys.getD j 0).toNat (by omega); omega
    · rw [hset j _ hj hjk]; exact h1.2 _ (by omega)
  · by_cases hjk : j = k
    · subst hjk; rw [hself]
    · rw [hset j _ (by omega) hjk]; exact h2 j (by omega)
  · rw [hset j _ hjn (by omega)]; exact h3 j (by omega) hjn
theorem sell_done (hI : SellI sh p res ys k sold) (hy : Order sh.length ys) (hk : k < sh.length) (hsrt : SortTo p ys sh.length) (hp : p.length = sh.length) (hp0 : ∀ x ∈ p, 0 ≤ x) (hanti : ∀ x y, x ≤ y → res y = false → res x = false)
    {v : Int} (hv0 : 0 ≤ v) (hv1 : v ≤ sh.getD (ys.getD k 0).toNat 0) (hno : ∀ u, 0 ≤ u → u < v → res (dot (sold.set (ys.getD k 0).toNat u) p) = false) (hok : res (dot (sold.set (ys.getD k 0).toNat v) p) = true) :
    SellR sh p res (sold.set (ys.getD k 0).toNat v) := by
  obtain ⟨h1, h2, h3, h4⟩ := hI
  have hb := hy.2.1 k hk
  have hil : (ys.getD k 0).toNat < sold.length := by rw [h1.1]; omega
  have hz := h3 k (Nat.le_refl _) hk
  have hne : ∀ j, j < sh.length → j ≠ k → (ys.getD j 0).toNat ≠ (ys.getD k 0).toNat := fun j hj hjk e => by
    have hb2 := hy.2.1 j hj
    exact hjk (hy.2.2.2 j k hj hk (by omega))
  have hset : ∀ j x, j < sh.length → j ≠ k → (sold.set (ys.getD k 0).toNat x).getD (ys.getD j 0).toNat 0 = sold.getD (ys.getD j 0).toNat 0 := fun j x hj hjk => set_ne (hne j hj hjk)
  have hself : ∀ x, (sold.set (ys.getD k 0).toNat x).getD (ys.getD k 0).toNat 0 = x := fun x => set_at hil
  refine ⟨⟨by simpa using h1.1, fun i hi => ?_⟩, hok, fun s hs hlt => ?_⟩
  · obtain ⟨j, hj, e⟩ := hy.2.2.1 i hi
    have e' : i = (ys.getD j 0).toNat := by omega
    rw [e']
    by_cases hjk : j = k
    · subst hjk; rw [hself]; exact ⟨hv0, hv1⟩
    · rw [hset j _ hj hjk]; exact h1.2 _ (by omega)
  · by_cases hv : v = 0
    · exfalso
      subst hv
      have e0 : sold.set (ys.getD k 0).toNat 0 = sold := by
        refine List.ext_getElem (by simp) fun i q1 q2 => ?_
        rw [List.getElem_set]
        split
        · rename_i e; subst e; rw [← int_at q2]; exact hz.symm
        · rfl
      rw [e0] at hok hlt
      rcases Nat.eq_zero_or_pos k with hk0 | hk0
      · have hs0 : sumI sold = 0 := by
          have e1 : sold = List.replicate sold.length 0 := by
            refine List.ext_getElem (by simp) fun i q1 q2 => ?_
            obtain ⟨j, hj, e⟩ := hy.2.2.1 i (by rw [← h1.1]; exact q1)
            have := h3 j (by omega) hj
            rw [e, Int.toNat_natCast, int_at q1] at this
            simpa using this
          rw [e1]; exact sum_zero _
        have := hs.sum.1
        omega
      · rw [h4 hk0] at hok; cases hok
    · have hlast := hno (v - 1) (by omega) (by omega)
      have hsum : sumI s ≤ sumI (sold.set (ys.getD k 0).toNat (v - 1)) := by
        rw [sum_set hil] at hlt ⊢; omega
      refine hanti _ _ (top_best (c := p.getD (ys.getD k 0).toNat 0) (hp0 _ (getD_mem (by omega))) (by simpa using h1.1) hs hp hsum fun i hi => ?_) hlast
      obtain ⟨j, hj, e⟩ := hy.2.2.1 i hi
      have e' : i = (ys.getD j 0).toNat := by omega
      rw [e']
      by_cases hjk : j = k
      · subst hjk; exact ⟨fun _ => Int.le_refl _, fun _ => Int.le_refl _⟩
      · rw [hset j _ hj hjk]
        rcases Nat.lt_or_gt_of_ne hjk with hlt' | hgt
        · exact ⟨fun h => absurd h (by have := h2 j hlt'; omega), fun _ => hsrt j k hlt' hk⟩
        · exact ⟨fun _ => hsrt k j hgt hj, fun h => absurd h (by have := h3 j (by omega) hj; omega)⟩
theorem sell_none (hI : SellI sh p res ys sh.length sold) (hy : Order sh.length ys) (h0 : 0 < sh.length) (hp : p.length = sh.length) (hp0 : ∀ x ∈ p, 0 ≤ x) (hanti : ∀ x y, x ≤ y → res y = false → res x = false) : NoSell sh p res := by
  obtain ⟨h1, h2, h3, h4⟩ := hI
  have e : sold = sh := by
    refine List.ext_getElem h1.1 fun i q1 q2 => ?_
    obtain ⟨j, hj, e⟩ := hy.2.2.1 i q2
    have := h2 j hj
    rw [e, Int.toNat_natCast, int_at q1, int_at q2] at this
    exact this
  subst e
  exact fun s hs => hanti _ _ (full_best hs hp hp0) (h4 h0)
end
/-! ### the greatest proceeds of so many shares -/
def moK (best : List Int) (p : Int) (n : Nat) : Nat → Int
  | 0 => 0
  | k + 1 => if n - k < best.length then max (moK best p n k) (best.getD (n - k) 0 + k * p) else moK best p n k
def mostStep (best : List Int) (x p : Int) : List Int := (List.range (best.length + x.toNat)).map fun n => moK best p n (min n x.toNat + 1)
def mostL (sh p : List Int) : Nat → List Int
  | 0 => [0]
  | s + 1 => mostStep (mostL sh p s) (sh.getD s 0) (p.getD s 0)
theorem moK_ge {best : List Int} {p : Int} {n : Nat} : ∀ (j k : Nat), k < j → n - k < best.length → best.getD (n - k) 0 + k * p ≤ moK best p n j
  | 0, k, h, _ => absurd h (Nat.not_lt_zero _)
  | j + 1, k, h, hl => by
    simp only [moK]
    by_cases e : k = j
    · subst e; rw [if_pos hl]; omega
    · have := moK_ge (p := p) j k (by omega) hl
      split <;> omega
theorem moK_form {best : List Int} {p : Int} {n : Nat} : ∀ (j : Nat), moK best p n j = 0 ∨ ∃ k, k < j ∧ n - k < best.length ∧ moK best p n j = best.getD (n - k) 0 + k * p
  | 0 => .inl rfl
  | j + 1 => by
    simp only [moK]
    split
    · rename_i h
      rcases Int.le_total (moK best p n j) (best.getD (n - j) 0 + j * p) with h1 | h1
      · right; exact ⟨j, by omega, h, by omega⟩
      · rw [Int.max_eq_left h1]
        rcases moK_form j with h2 | ⟨k, h2, h3, h4⟩
        · exact .inl h2
        · exact .inr ⟨k, by omega, h3, h4⟩
    · rcases moK_form j with h2 | ⟨k, h2, h3, h4⟩
      · exact .inl h2
      · exact .inr ⟨k, by omega, h3, h4⟩
theorem moK_pos {best : List Int} {p : Int} {n : Nat} : ∀ (j : Nat), 0 ≤ moK best p n j
  | 0 => Int.le_refl _
  | j + 1 => by
    have := moK_pos (best := best) (p := p) (n := n) j
    simp only [moK]; split <;> omega
def MostOf (sh p best : List Int) : Prop := best.length = (sumI sh).toNat + 1 ∧ ∀ n, n < best.length → (∃ s, SaleOf sh s ∧ sumI s = n ∧ dot s p = best.getD n 0) ∧ ∀ s, SaleOf sh s → sumI s = n → dot s p ≤ best.getD n 0
theorem dot_append : ∀ (xs ps : List Int) (x q : Int), xs.length = ps.length → dot (xs ++ [x]) (ps ++ [q]) = dot xs ps + x * q
  | [], [], x, q, _ => by simp [dot]
  | [], _ :: _, _, _, h => by simp at h
  | _ :: _, [], _, _, h => by simp at h
  | a :: xs, b :: ps, x, q, h => by
    have := dot_append xs ps x q (by simpa using h)
    simp only [List.cons_append, dot]; omega
theorem sale_snoc {sh s : List Int} {x y : Int} (h : SaleOf sh s) (h0 : 0 ≤ y) (h1 : y ≤ x) : SaleOf (sh ++ [x]) (s ++ [y]) := by
  refine ⟨by simp [h.1], fun i hi => ?_⟩
  have hl := h.1
  rcases Nat.lt_or_ge i sh.length with hi' | hi'
  · have := h.2 i hi'
    simpa [List.getD_eq_getElem?_getD, List.getElem?_append, hi', hl] using this
  · have e : i = sh.length := by simp at hi; omega
    subst e
    simp [List.getD_eq_getElem?_getD, List.getElem?_append, hl]; exact ⟨h0, h1⟩
theorem sale_unsnoc {sh s : List Int} {x : Int} (h : SaleOf (sh ++ [x]) s) : ∃ s' y, s = s' ++ [y] ∧ SaleOf sh s' ∧ 0 ≤ y ∧ y ≤ x := by
  have hl : s.length = sh.length + 1 := by simpa using h.1
  have e : s = s.take sh.length ++ [s.getD sh.length 0] := by
    have := List.take_append_getElem (l := s) (i := sh.length) (by omega)
    simp only [List.getD_eq_getElem?_getD, List.getElem?_eq_getElem (show sh.length < s.length by omega), Option.getD_some]
    rw [this, List.take_of_length_le (by omega)]
  refine ⟨_, _, e, ⟨by simp; omega, fun i hi => ?_⟩, ?_⟩
  · have := h.2 i (by simp; omega)
    simpa [List.getD_eq_getElem?_getD, List.getElem?_append, hi, List.getElem?_take] using this
  · have := h.2 sh.length (by simp)
    simpa [List.getD_eq_getElem?_getD, List.getElem?_append] using this
theorem most_step {sh p best : List Int} {x q : Int} (hM : MostOf sh p best) (hp : p.length = sh.length) (hx : 0 ≤ x) (hq : 0 ≤ q) (hsh : ∀ y ∈ sh, 0 ≤ y) (hp0 : ∀ y ∈ p, 0 ≤ y) : MostOf (sh ++ [x]) (p ++ [q]) (mostStep best x q) := by
  obtain ⟨hl, hM⟩ := hM
  have hs0 : 0 ≤ sumI sh := by have := (sale_zero hsh).sum; rw [sum_zero] at this; exact this.2
  have hL : (mostStep best x q).length = best.length + x.toNat := by simp [mostStep]
  have hsum : sumI (sh ++ [x]) = sumI sh + x := by rw [sumI_append]; simp [sumI]
  refine ⟨by rw [hL, hsum]; omega, fun n hn => ?_⟩
  rw [hL] at hn
  have hv : (mostStep best x q).getD n 0 = moK best q n (min n x.toNat + 1) := by simp [mostStep, List.getD_eq_getElem?_getD, hn]
  rw [hv]
  constructor
  · have hpos : ∀ m, m < best.length → 0 ≤ best.getD m 0 := fun m hm => by
      obtain ⟨s, h1, _, h3⟩ := (hM m hm).1
      rw [← h3]
      exact dot_nonneg _ _ (fun y hy => by
        obtain ⟨j, hj, e⟩ := List.getElem_of_mem hy
        have := (h1.2 j (by rw [← h1.1]; exact hj)).1
        simpa [List.getD_eq_getElem?_getD, hj, e] using this) hp0
    have key : ∃ k, k ≤ n ∧ k ≤ x.toNat ∧ n - k < best.length ∧ moK best q n (min n x.toNat + 1) = best.getD (n - k) 0 + k * q := by
      rcases moK_form (best := best) (p := q) (n := n) (min n x.toNat + 1) with h0 | ⟨k, h1, h2, h3⟩
      · have hk : n - min n x.toNat < best.length := by omega
        have h1 := moK_ge (p := q) (min n x.toNat + 1) (min n x.toNat) (by omega) hk
        have h2 := hpos _ hk
        have h3 : 0 ≤ ((min n x.toNat : Nat) : Int) * q := Int.mul_nonneg (by omega) hq
        exact ⟨min n x.toNat, by omega, by omega, hk, by omega⟩
      · exact ⟨k, by omega, by omega, h2, h3⟩
    obtain ⟨k, k1, k2, k3, k4⟩ := key
    obtain ⟨s, h1, h2, h3⟩ := (hM _ k3).1
    refine ⟨s ++ [(k : Int)], sale_snoc h1 (by omega) (by omega), ?_, ?_⟩
    · rw [sumI_append, h2]; simp [sumI]; omega
    · rw [dot_append _ _ _ _ (by rw [h1.1, hp]), h3, k4]
  · intro s hs hsn
    obtain ⟨s', y, rfl, h1, h2, h3⟩ := sale_unsnoc hs
    rw [sumI_append] at hsn
    simp only [sumI, Int.add_zero] at hsn
    have h4 := h1.sum
    rw [dot_append _ _ _ _ (by rw [h1.1, hp])]
    obtain ⟨k, rfl⟩ : ∃ k : Nat, y = k := ⟨y.toNat, by omega⟩
    have hnk : n - k < best.length := by omega
    have h5 := (hM _ hnk).2 s' h1 (by omega)
    have h6 := moK_ge (p := q) (min n x.toNat + 1) k (by omega) hnk
    omega
theorem most_nil : MostOf [] [] [0] := ⟨by simp [sumI], fun n hn => by
  have : n = 0 := by simpa using hn
  subst this
  exact ⟨⟨[], ⟨rfl, fun i hi => absurd hi (Nat.not_lt_zero _)⟩, rfl, rfl⟩, fun s hs _ => by rw [List.length_eq_zero_iff.1 hs.1]; simp [dot]⟩⟩
theorem most_of {sh p : List Int} (hp : p.length = sh.length) (hsh : ∀ y ∈ sh, 0 ≤ y) (hp0 : ∀ y ∈ p, 0 ≤ y) : ∀ k, k ≤ sh.length → MostOf (sh.take k) (p.take k) (mostL sh p k)
  | 0, _ => by rw [List.take_zero, List.take_zero]; exact most_nil
  | k + 1, hk => by
    have ih := most_of hp hsh hp0 k (by omega)
    have e1 : sh.take (k + 1) = sh.take k ++ [sh.getD k 0] := by
      rw [List.take_succ_eq_append_getElem (by omega)]; simp [List.getD_eq_getElem?_getD, show k < sh.length by omega]
    have e2 : p.take (k + 1) = p.take k ++ [p.getD k 0] := by
      rw [List.take_succ_eq_append_getElem (by omega)]; simp [List.getD_eq_getElem?_getD, show k < p.length by omega]
    rw [e1, e2]
    exact most_step ih (by simp; omega) (hsh _ (getD_mem (by omega))) (hp0 _ (getD_mem (by omega))) (fun y hy => hsh y (List.mem_of_mem_take hy)) (fun y hy => hp0 y (List.mem_of_mem_take hy))
theorem most_all {sh p : List Int} (hp : p.length = sh.length) (hsh : ∀ y ∈ sh, 0 ≤ y) (hp0 : ∀ y ∈ p, 0 ≤ y) : MostOf sh p (mostL sh p sh.length) := by
  have := most_of hp hsh hp0 sh.length (Nat.le_refl _)
  rwa [List.take_length, List.take_of_length_le (by omega)] at this
/-- the first number that does -/
def FewOf (res : Int → Bool) (best : List Int) (z : Int) : Prop := (z = -1 ∧ ∀ j, j < best.length → res (best.getD j 0) = false) ∨ ∃ n : Nat, n < best.length ∧ z = n ∧ res (best.getD n 0) = true ∧ ∀ j, j < n → res (best.getD j 0) = false
theorem few_sell {sh p best sold : List Int} {res : Int → Bool} {z : Int} (hM : MostOf sh p best) (hmono : ∀ x y, x ≤ y → res x = true → res y = true) (hz : FewOf res best z) (hs : SellR sh p res sold) : z = sumI sold := by
  obtain ⟨h1, h2, h3⟩ := hs
  have hsum := h1.sum
  have hn : (sumI sold).toNat < best.length := by rw [hM.1]; omega
  have hb := hmono _ _ ((hM.2 _ hn).2 sold h1 (by omega)) h2
  rcases hz with ⟨rfl, hz⟩ | ⟨n, hnl, rfl, hr, hz⟩
  · rw [hz _ hn] at hb; cases hb
  · rcases Nat.lt_trichotomy n (sumI sold).toNat with h | h | h
    · obtain ⟨s, k1, k2, k3⟩ := (hM.2 n hnl).1
      have := h3 s k1 (by omega)
      rw [k3, hr] at this; cases this
    · omega
    · rw [hz _ h] at hb; cases hb
theorem few_none {sh p best : List Int} {res : Int → Bool} {z : Int} (hM : MostOf sh p best) (hz : FewOf res best z) (hs : NoSell sh p res) : z = -1 := by
  rcases hz with ⟨rfl, hz⟩ | ⟨n, hnl, rfl, hr, hz⟩
  · rfl
  · obtain ⟨s, k1, k2, k3⟩ := (hM.2 n hnl).1
    have := hs s k1
    rw [k3, hr] at this; cases this
theorem few_pos {res : Int → Bool} {best : List Int} {z : Int} (hz : FewOf res best z) : -1 ≤ z ∧ z < best.length := by
  rcases hz with ⟨rfl, _⟩ | ⟨n, h, rfl, _⟩ <;> omega
end Go.Proofs.Ytfiacjdkdjkiiaa
