/- All truths of a bank, by numbers: mixed radices. No program in sight. -/
import Derived.Test.YtfiacjdkdjkiiaaZsPy
namespace Go.Proofs.Ytfiacjdkdjkiiaa
open Go Go.RowKit Go.Tl
set_option linter.unusedVariables false
set_option linter.unusedSectionVars false
def wid (r : Rng) : Int := r.hi - r.lo + 1
def pN : List Rng → Int → List Int × Int
  | [], n => ([], n)
  | r :: rs, n => ((r.lo + n % wid r) :: (pN rs (n / wid r)).1, (pN rs (n / wid r)).2)
def dN : List DayD → Int → (List (List Int) × List Int) × Int
  | [], n => (([], []), n)
  | d :: ds, n => (((pN d.prices (n / wid d.rate)).1 :: (dN ds (pN d.prices (n / wid d.rate)).2).1.1, (d.rate.lo + n % wid d.rate) :: (dN ds (pN d.prices (n / wid d.rate)).2).1.2), (dN ds (pN d.prices (n / wid d.rate)).2).2)
def nthD (b : BankD) (n : Int) : TruthD := ⟨(dN b.days n).1.1, (dN b.days n).1.2⟩
def pP : List Rng → Int
  | [] => 1
  | r :: rs => wid r * pP rs
def dP : List DayD → Int
  | [] => 1
  | d :: ds => wid d.rate * (pP d.prices * dP ds)
theorem pN_snoc (rs : List Rng) (r : Rng) (n : Int) : pN (rs ++ [r]) n = ((pN rs n).1 ++ [r.lo + (pN rs n).2 % wid r], (pN rs n).2 / wid r) := by
  induction rs generalizing n with
  | nil => rfl
  | cons x rs ih => simp only [List.cons_append, pN, ih]
theorem dN_snoc (ds : List DayD) (d : DayD) (n : Int) : dN (ds ++ [d]) n = (((dN ds n).1.1 ++ [(pN d.prices ((dN ds n).2 / wid d.rate)).1], (dN ds n).1.2 ++ [d.rate.lo + (dN ds n).2 % wid d.rate]), (pN d.prices ((dN ds n).2 / wid d.rate)).2) := by
  induction ds generalizing n with
  | nil => rfl
  | cons x ds ih => simp only [List.cons_append, dN, ih]
theorem pN_len (rs : List Rng) (n : Int) : (pN rs n).1.length = rs.length := by
  induction rs generalizing n with
  | nil => rfl
  | cons x rs ih => simp [pN, ih]
theorem dN_len (ds : List DayD) (n : Int) : (dN ds n).1.1.length = ds.length ∧ (dN ds n).1.2.length = ds.length := by
  induction ds generalizing n with
  | nil => exact ⟨rfl, rfl⟩
  | cons x ds ih => simp [dN, ih]
def OkR (rs : List Rng) : Prop := ∀ r ∈ rs, 0 ≤ r.lo ∧ r.lo ≤ r.hi ∧ r.hi ≤ 1000
theorem wid_pos {r : Rng} (h : r.lo ≤ r.hi) : 1 ≤ wid r := by unfold wid; omega
theorem pP_pos {rs : List Rng} (h : OkR rs) : 1 ≤ pP rs := by
  induction rs with
  | nil => exact Int.le_refl _
  | cons r rs ih =>
    have h1 := ih (fun x hx => h x (List.mem_cons_of_mem _ hx))
    have h2 := wid_pos (h r List.mem_cons_self).2.1
    have := Int.mul_le_mul h2 h1 (by decide) (by omega)
    simpa [pP] using this
theorem pN_rest {rs : List Rng} (h : OkR rs) {n : Int} (hn : 0 ≤ n) : 0 ≤ (pN rs n).2 ∧ (pN rs n).2 ≤ n := by
  induction rs generalizing n with
  | nil => exact ⟨hn, Int.le_refl _⟩
  | cons r rs ih =>
    have h2 := wid_pos (h r List.mem_cons_self).2.1
    have h3 := Int.ediv_nonneg hn (show 0 ≤ wid r by omega)
    have h4 := Int.ediv_le_self (wid r) hn
    have := ih (fun x hx => h x (List.mem_cons_of_mem _ hx)) h3
    simp only [pN]; omega
theorem pN_in {rs : List Rng} (h : OkR rs) (n : Int) {k : Nat} (hk : k < rs.length) : (rs.getD k default).lo ≤ (pN rs n).1.getD k 0 ∧ (pN rs n).1.getD k 0 ≤ (rs.getD k default).hi := by
  induction rs generalizing n k with
  | nil => simp at hk
  | cons r rs ih =>
    have hr := h r List.mem_cons_self
    cases k with
    | zero =>
      have h1 := Int.emod_nonneg n (show wid r ≠ 0 by unfold wid; omega)
      have h2 := Int.emod_lt_of_pos n (show 0 < wid r by unfold wid; omega)
      show r.lo ≤ r.lo + n % wid r ∧ r.lo + n % wid r ≤ r.hi
      unfold wid at *; omega
    | succ k =>
      have := ih (fun x hx => h x (List.mem_cons_of_mem _ hx)) (n / wid r) (k := k) (by simpa using hk)
      simpa [pN] using this
theorem pN_ex {rs : List Rng} (h : OkR rs) {xs : List Int} (hl : xs.length = rs.length) (hx : ∀ k, k < rs.length → (rs.getD k default).lo ≤ xs.getD k 0 ∧ xs.getD k 0 ≤ (rs.getD k default).hi) {m : Int} (hm : 0 ≤ m) :
    ∃ n, pN rs n = (xs, m) ∧ 0 ≤ n ∧ n < pP rs * (m + 1) := by
  induction rs generalizing xs with
  | nil =>
    obtain rfl := List.length_eq_zero_iff.1 hl
    exact ⟨m, rfl, hm, by simp [pP]; omega⟩
  | cons r rs ih =>
    match xs, hl with
    | x :: xs, hl =>
      obtain ⟨n', e, h0, h1⟩ := ih (fun x hx => h x (List.mem_cons_of_mem _ hx)) (xs := xs) (by simpa using hl) (fun k hk => by simpa using hx (k + 1) (by simpa using hk))
      have hr := h r List.mem_cons_self
      have hx0 : r.lo ≤ x ∧ x ≤ r.hi := by simpa using hx 0 (by simp)
      have hw : 0 < wid r := by unfold wid; omega
      have hw2 : x - r.lo < wid r := by unfold wid; omega
      refine ⟨(x - r.lo) + wid r * n', ?_, ?_, ?_⟩
      · have e1 : ((x - r.lo) + wid r * n') % wid r = x - r.lo := by rw [Int.add_mul_emod_self_left]; exact Int.emod_eq_of_lt (by omega) hw2
        have e2 : ((x - r.lo) + wid r * n') / wid r = n' := by rw [Int.add_mul_ediv_left _ _ (by omega), Int.ediv_eq_zero_of_lt (by omega) hw2]; omega
        simp only [pN, e1, e2, e]
        congr 2
        omega
      · have := Int.mul_nonneg (show 0 ≤ wid r by omega) h0; omega
      · have h2 : wid r * (n' + 1) ≤ wid r * (pP rs * (m + 1)) := Int.mul_le_mul_of_nonneg_left (by omega) (by omega)
        rw [Int.mul_add, Int.mul_one] at h2
        show _ < wid r * pP rs * (m + 1)
        rw [Int.mul_assoc]
        omega
def OkD (ds : List DayD) : Prop := ∀ d ∈ ds, OkR d.prices ∧ 0 ≤ d.rate.lo ∧ d.rate.lo ≤ d.rate.hi ∧ d.rate.hi ≤ 100
theorem dP_pos {ds : List DayD} (h : OkD ds) : 1 ≤ dP ds := by
  induction ds with
  | nil => exact Int.le_refl _
  | cons d ds ih =>
    have h1 := ih (fun x hx => h x (List.mem_cons_of_mem _ hx))
    have hd := h d List.mem_cons_self
    have h2 := wid_pos hd.2.2.1
    have h3 := pP_pos hd.1
    have h4 : 1 ≤ pP d.prices * dP ds := by have := Int.mul_le_mul h3 h1 (by decide) (by omega); simpa using this
    have := Int.mul_le_mul h2 h4 (by decide) (by omega)
    simpa [dP] using this
theorem dN_in {ds : List DayD} (h : OkD ds) {n : Int} (hn : 0 ≤ n) {k : Nat} (hk : k < ds.length) : ((dN ds n).1.1.getD k []).length = (ds.getD k default).prices.length ∧
    ((ds.getD k default).rate.lo ≤ (dN ds n).1.2.getD k 0 ∧ (dN ds n).1.2.getD k 0 ≤ (ds.getD k default).rate.hi) ∧
    ∀ j, j < (ds.getD k default).prices.length → ((ds.getD k default).prices.getD j default).lo ≤ ((dN ds n).1.1.getD k []).getD j 0 ∧ ((dN ds n).1.1.getD k []).getD j 0 ≤ ((ds.getD k default).prices.getD j default).hi := by
  induction ds generalizing n k with
  | nil => simp at hk
  | cons d ds ih =>
    have hd := h d List.mem_cons_self
    have h3 := Int.ediv_nonneg hn (show 0 ≤ wid d.rate by unfold wid; omega)
    cases k with
    | zero =>
      have h1 := Int.emod_nonneg n (show wid d.rate ≠ 0 by unfold wid; omega)
      have h2 := Int.emod_lt_of_pos n (show 0 < wid d.rate by unfold wid; omega)
      refine ⟨pN_len _ _, ?_, fun j hj => pN_in hd.1 _ hj⟩
      show d.rate.lo ≤ d.rate.lo + n % wid d.rate ∧ d.rate.lo + n % wid d.rate ≤ d.rate.hi
      unfold wid at *; omega
    | succ k =>
      have := ih (fun x hx => h x (List.mem_cons_of_mem _ hx)) (pN_rest hd.1 h3).1 (k := k) (by simpa using hk)
      simpa [dN] using this
theorem dN_ex {ds : List DayD} (h : OkD ds) {ps : List (List Int)} {rs : List Int} (l1 : ps.length = ds.length) (l2 : rs.length = ds.length)
    (hx : ∀ k, k < ds.length → (ps.getD k []).length = (ds.getD k default).prices.length ∧ ((ds.getD k default).rate.lo ≤ rs.getD k 0 ∧ rs.getD k 0 ≤ (ds.getD k default).rate.hi) ∧
      ∀ j, j < (ds.getD k default).prices.length → ((ds.getD k default).prices.getD j default).lo ≤ (ps.getD k []).getD j 0 ∧ (ps.getD k []).getD j 0 ≤ ((ds.getD k default).prices.getD j default).hi) {m : Int} (hm : 0 ≤ m) :
    ∃ n, dN ds n = ((ps, rs), m) ∧ 0 ≤ n ∧ n < dP ds * (m + 1) := by
  induction ds generalizing ps rs with
  | nil =>
    obtain rfl := List.length_eq_zero_iff.1 l1
    obtain rfl := List.length_eq_zero_iff.1 l2
    exact ⟨m, rfl, hm, by simp [dP]; omega⟩
  | cons d ds ih =>
    match ps, rs, l1, l2 with
    | p :: ps, r :: rs, l1, l2 =>
      obtain ⟨n', e, h0, h1⟩ := ih (fun x hx => h x (List.mem_cons_of_mem _ hx)) (ps := ps) (rs := rs) (by simpa using l1) (by simpa using l2) (fun k hk => by simpa using hx (k + 1) (by simpa using hk))
      have hd := h d List.mem_cons_self
      have hx0 := hx 0 (by simp)
      simp only [List.getD_cons_zero] at hx0
      obtain ⟨q, e2, h2, h3⟩ := pN_ex hd.1 hx0.1 hx0.2.2 h0
      have hw : 0 < wid d.rate := by unfold wid; omega
      have hw2 : r - d.rate.lo < wid d.rate := by have := hx0.2.1; unfold wid; omega
      have hr0 := hx0.2.1
      refine ⟨(r - d.rate.lo) + wid d.rate * q, ?_, ?_, ?_⟩
      · have e3 : ((r - d.rate.lo) + wid d.rate * q) % wid d.rate = r - d.rate.lo := by rw [Int.add_mul_emod_self_left]; exact Int.emod_eq_of_lt (by omega) hw2
        have e4 : ((r - d.rate.lo) + wid d.rate * q) / wid d.rate = q := by rw [Int.add_mul_ediv_left _ _ (by omega), Int.ediv_eq_zero_of_lt (by omega) hw2]; omega
        have e5 : d.rate.lo + (r - d.rate.lo) = r := by omega
        simp only [dN, e3, e4, e2, e, e5]
      · have := Int.mul_nonneg (show 0 ≤ wid d.rate by omega) h2; omega
      · have hp := pP_pos hd.1
        have h4 : wid d.rate * (q + 1) ≤ wid d.rate * (pP d.prices * (n' + 1)) := Int.mul_le_mul_of_nonneg_left (by omega) (by omega)
        have h5 : pP d.prices * (n' + 1) ≤ pP d.prices * (dP ds * (m + 1)) := Int.mul_le_mul_of_nonneg_left (by omega) (by omega)
        have h6 : wid d.rate * (pP d.prices * (n' + 1)) ≤ wid d.rate * (pP d.prices * (dP ds * (m + 1))) := Int.mul_le_mul_of_nonneg_left h5 (by omega)
        rw [Int.mul_add, Int.mul_one] at h4
        show _ < wid d.rate * (pP d.prices * dP ds) * (m + 1)
        rw [Int.mul_assoc, Int.mul_assoc]
        omega
section
variable {b : BankD} (hv : Valid b)
include hv
theorem okD : OkD b.days := fun d hd => by
  obtain ⟨k, hk, rfl⟩ := mem_getD (d := (default : DayD)) hd
  refine ⟨fun r hr => ?_, hv.rate k hk⟩
  obtain ⟨j, hj, rfl⟩ := mem_getD (d := (default : Rng)) hr
  exact hv.price k hk j hj
theorem nth_truth {n : Int} (hn : 0 ≤ n) : truthB b (nthD b n) = true := by
  have hst := hv.st
  have hl := dN_len b.days n
  refine truthB_mk hv hl.1 hl.2 (fun k hk => ?_) (fun k hk => ?_) (fun k hk j hj => ?_)
  · have h1 := (dN_in (okD hv) hn hk).1
    have := hv.plen k hk
    show ((dN b.days n).1.1.getD k []).length = _
    omega
  · exact inB_iff.2 (dN_in (okD hv) hn hk).2.1
  · have := hv.plen k hk
    exact inB_iff.2 ((dN_in (okD hv) hn hk).2.2 j (by omega))
theorem nth_ex {t : TruthD} (ht : truthB b t = true) : ∃ n : Nat, (n : Int) < dP b.days ∧ nthD b n = t := by
  obtain ⟨l1, l2⟩ := truthB_len ht
  obtain ⟨n, e, h0, h1⟩ := dN_ex (okD hv) (ps := t.prices) (rs := t.rates) l1 l2 (fun k hk => by
    have h := truthB_day ht hk
    have := hv.plen k hk
    exact ⟨by omega, inB_iff.1 h.2.1, fun j hj => inB_iff.1 (h.2.2 j hj)⟩) (m := 0) (by decide)
  obtain ⟨k, rfl⟩ := Int.eq_ofNat_of_zero_le h0
  exact ⟨k, by omega, by unfold nthD; rw [e]⟩
end
/-- the smallest and the greatest of some numbers -/
def minF (f : Nat → Int) : Nat → Int
  | 0 => 0
  | n + 1 => if n = 0 then f 0 else min (minF f n) (f n)
def maxF (f : Nat → Int) : Nat → Int
  | 0 => 0
  | n + 1 => if n = 0 then f 0 else max (maxF f n) (f n)
theorem minF_le {f : Nat → Int} {n k : Nat} (hk : k < n) : minF f n ≤ f k := by
  induction n with
  | zero => omega
  | succ n ih =>
    simp only [minF]
    by_cases h0 : n = 0
    · subst h0; have : k = 0 := by omega
      subst this; simp
    · rw [if_neg h0]
      by_cases e : k = n
      · subst e; exact Int.min_le_right _ _
      · exact Int.le_trans (Int.min_le_left _ _) (ih (by omega))
theorem le_maxF {f : Nat → Int} {n k : Nat} (hk : k < n) : f k ≤ maxF f n := by
  induction n with
  | zero => omega
  | succ n ih =>
    simp only [maxF]
    by_cases h0 : n = 0
    · subst h0; have : k = 0 := by omega
      subst this; simp
    · rw [if_neg h0]
      by_cases e : k = n
      · subst e; exact Int.le_max_right _ _
      · exact Int.le_trans (ih (by omega)) (Int.le_max_left _ _)
theorem le_minF {f : Nat → Int} {n : Nat} {x : Int} (hn : 0 < n) (h : ∀ k, k < n → x ≤ f k) : x ≤ minF f n := by
  induction n with
  | zero => omega
  | succ n ih =>
    simp only [minF]
    by_cases h0 : n = 0
    · rw [if_pos h0]; exact h 0 (by omega)
    · rw [if_neg h0]
      have := ih (by omega) (fun k hk => h k (by omega))
      have := h n (by omega)
      omega
theorem maxF_le {f : Nat → Int} {n : Nat} {x : Int} (hn : 0 < n) (h : ∀ k, k < n → f k ≤ x) : maxF f n ≤ x := by
  induction n with
  | zero => omega
  | succ n ih =>
    simp only [maxF]
    by_cases h0 : n = 0
    · rw [if_pos h0]; exact h 0 (by omega)
    · rw [if_neg h0]
      have := ih (by omega) (fun k hk => h k (by omega))
      have := h n (by omega)
      omega
theorem mm_eq {f : Nat → Int} {n : Nat} {lo hi : Int} (h : ∀ k, k < n → lo ≤ f k ∧ f k ≤ hi) {i j : Nat} (hi' : i < n) (hj : j < n) (e1 : f i = lo) (e2 : f j = hi) : minF f n = lo ∧ maxF f n = hi := by
  have h1 := le_minF (f := f) (n := n) (by omega) (fun k hk => (h k hk).1)
  have h2 := maxF_le (f := f) (n := n) (by omega) (fun k hk => (h k hk).2)
  have h3 := minF_le (f := f) hi'
  have h4 := le_maxF (f := f) hj
  omega
end Go.Proofs.Ytfiacjdkdjkiiaa
