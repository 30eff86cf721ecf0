/- Plain mathematics of a loan: states, bounds, monotone debts. No program in sight. -/
import Derived.Test.YtfiacjdkdjkiiaaBase
namespace Go.Proofs.Ytfiacjdkdjkiiaa
set_option linter.unusedVariables false

/-! ### the value of shares -/
def dot : List Int → List Int → Int
  | x :: xs, p :: ps => x * p + dot xs ps
  | _, _ => 0

/-! ### a loan, day by day -/
structure St where
  before : Int
  value : Int
  call : Int
  deriving Inhabited, DecidableEq
def St.after (s : St) : Int := s.before - s.call
def befN (debt rate : Int) : Int := debt + debt * rate / 10000
def limN (val margin : Int) : Int := 100 * val / (100 + margin)
def callN (bef val margin : Int) : Int := max 0 (bef - limN val margin)
def stepN (l : LoanD) (debt rate : Int) (ps : List Int) : St := ⟨befN debt rate, dot l.shares ps, callN (befN debt rate) (dot l.shares ps) l.margin⟩
def stN (l : LoanD) (ps : List (List Int)) (rs : List Int) : Nat → St
  | 0 => stepN l l.money (rs.getD 0 0) (ps.getD 0 [])
  | n + 1 => stepN l (stN l ps rs n).after (rs.getD (n + 1) 0) (ps.getD (n + 1) [])

/-- every price and rate is at least 0 and small -/
def SmallT (ps : List (List Int)) (rs : List Int) : Prop := (∀ n x, x ∈ ps.getD n [] → 0 ≤ x ∧ x ≤ 1000) ∧ (∀ n, 0 ≤ rs.getD n 0 ∧ rs.getD n 0 ≤ 100)
def SmallL (l : LoanD) : Prop := 0 ≤ l.money ∧ l.money ≤ 100000 ∧ 0 ≤ l.margin ∧ l.margin ≤ 100 ∧ (∀ x ∈ l.shares, 0 ≤ x ∧ x ≤ 100)

theorem dot_nonneg (xs ps : List Int) (hx : ∀ x ∈ xs, 0 ≤ x) (hp : ∀ x ∈ ps, 0 ≤ x) : 0 ≤ dot xs ps := by
  induction xs generalizing ps with
  | nil => cases ps <;> simp [dot]
  | cons x xs ih =>
    cases ps with
    | nil => simp [dot]
    | cons p ps =>
      have h1 := ih ps (fun y hy => hx y (by simp [hy])) (fun y hy => hp y (by simp [hy]))
      have h2 := Int.mul_nonneg (hx x (by simp)) (hp p (by simp))
      simp only [dot]; omega
theorem dot_le (xs ps : List Int) (hx : ∀ x ∈ xs, 0 ≤ x ∧ x ≤ 100) (hp : ∀ x ∈ ps, 0 ≤ x ∧ x ≤ 1000) : dot xs ps ≤ 100000 * xs.length := by
  induction xs generalizing ps with
  | nil => cases ps <;> simp [dot]
  | cons x xs ih =>
    cases ps with
    | nil => simp only [dot, List.length_cons]; omega
    | cons p ps =>
      have h1 := ih ps (fun y hy => hx y (by simp [hy])) (fun y hy => hp y (by simp [hy]))
      have hxx := hx x (by simp)
      have hpp := hp p (by simp)
      have h2 : x * p ≤ 100 * 1000 := Int.le_trans (Int.mul_le_mul_of_nonneg_right hxx.2 hpp.1) (Int.mul_le_mul_of_nonneg_left hpp.2 (by omega))
      simp only [dot, List.length_cons]; omega
/-- pointwise at most -/
def LeL : List Int → List Int → Prop
  | [], [] => True
  | x :: xs, y :: ys => x ≤ y ∧ LeL xs ys
  | _, _ => False
theorem dot_mono (xs ps qs : List Int) (hx : ∀ x ∈ xs, 0 ≤ x) (h : LeL ps qs) : dot xs ps ≤ dot xs qs := by
  induction xs generalizing ps qs with
  | nil => cases ps <;> cases qs <;> simp [dot]
  | cons x xs ih =>
    cases ps with
    | nil => cases qs with
      | nil => simp [dot]
      | cons q qs => exact h.elim
    | cons p ps => cases qs with
      | nil => exact h.elim
      | cons q qs =>
        have h1 := ih ps qs (fun y hy => hx y (by simp [hy])) h.2
        have h2 := Int.mul_le_mul_of_nonneg_left h.1 (hx x (by simp))
        simp only [dot]; omega
theorem LeL.refl (l : List Int) : LeL l l := by
  induction l with
  | nil => trivial
  | cons x l ih => exact ⟨Int.le_refl _, ih⟩
theorem LeL.trans {a b c : List Int} (h : LeL a b) (k : LeL b c) : LeL a c := by
  induction a generalizing b c with
  | nil => cases b with
    | nil => exact k
    | cons => exact h.elim
  | cons x a ih => cases b with
    | nil => exact h.elim
    | cons y b => cases c with
      | nil => exact k.elim
      | cons z c => exact ⟨Int.le_trans h.1 k.1, ih h.2 k.2⟩
theorem LeL.length {a b : List Int} (h : LeL a b) : a.length = b.length := by
  induction a generalizing b with
  | nil => cases b with
    | nil => rfl
    | cons => exact h.elim
  | cons x a ih => cases b with
    | nil => exact h.elim
    | cons y b => simp [ih h.2]
theorem LeL.getD {a b : List Int} (h : LeL a b) (k : Nat) (d : Int) : a.getD k d ≤ b.getD k d := by
  induction a generalizing b k with
  | nil => cases b with
    | nil => exact Int.le_refl _
    | cons => exact h.elim
  | cons x a ih => cases b with
    | nil => exact h.elim
    | cons y b => cases k with
      | zero => simpa using h.1
      | succ k => simpa using ih h.2 k
theorem LeL_of_getD {a b : List Int} (hl : a.length = b.length) (h : ∀ k, k < a.length → a.getD k 0 ≤ b.getD k 0) : LeL a b := by
  induction a generalizing b with
  | nil => cases b with
    | nil => trivial
    | cons => simp at hl
  | cons x a ih => cases b with
    | nil => simp at hl
    | cons y b =>
      refine ⟨by simpa using h 0 (by simp), ih (by simpa using hl) fun k hk => ?_⟩
      simpa using h (k + 1) (by simpa using hk)

/-! ### monotone -/
theorem befN_nonneg {d r : Int} (hd : 0 ≤ d) (hr : 0 ≤ r) : 0 ≤ befN d r := by
  have h1 := Int.ediv_nonneg (Int.mul_nonneg hd hr) (show (0:Int) ≤ 10000 by omega)
  unfold befN; omega
theorem befN_mono {d d' r r' : Int} (hd0 : 0 ≤ d) (hr0 : 0 ≤ r) (hd : d ≤ d') (hr : r ≤ r') : befN d r ≤ befN d' r' := by
  have h1 : d * r ≤ d' * r' := Int.le_trans (Int.mul_le_mul_of_nonneg_left hr hd0) (Int.mul_le_mul_of_nonneg_right hd (by omega))
  have h2 := Int.ediv_le_ediv (show (0:Int) < 10000 by omega) h1
  unfold befN; omega
theorem befN_le {d r : Int} (hd0 : 0 ≤ d) (hr0 : 0 ≤ r) (hr : r ≤ 100) : befN d r ≤ d + d / 100 := by
  have h1 : d * r ≤ d * 100 := Int.mul_le_mul_of_nonneg_left hr hd0
  have h2 := Int.ediv_le_ediv (show (0:Int) < 10000 by omega) h1
  unfold befN; omega
theorem limN_mono {v v' m : Int} (hm : 0 ≤ m) (h : v ≤ v') : limN v m ≤ limN v' m := by
  unfold limN
  exact Int.ediv_le_ediv (by omega) (by omega)
theorem limN_nonneg {v m : Int} (hm : 0 ≤ m) (h : 0 ≤ v) : 0 ≤ limN v m := by
  unfold limN
  exact Int.ediv_nonneg (by omega) (by omega)
theorem stepN_after (l : LoanD) (d r : Int) (ps : List Int) : (stepN l d r ps).after = min (befN d r) (limN (dot l.shares ps) l.margin) := by
  simp only [stepN, St.after, callN]; omega
theorem stepN_call_nonneg (l : LoanD) (d r : Int) (ps : List Int) : 0 ≤ (stepN l d r ps).call := by
  simp only [stepN, callN]; omega
theorem step_after_mono {l : LoanD} (hl : SmallL l) {d d' r r' : Int} {ps qs : List Int} (hd0 : 0 ≤ d) (hr0 : 0 ≤ r) (hd : d ≤ d') (hr : r ≤ r') (h : LeL ps qs) :
    (stepN l d r ps).after ≤ (stepN l d' r' qs).after := by
  rw [stepN_after, stepN_after]
  have h1 := befN_mono hd0 hr0 hd hr
  have h2 := limN_mono hl.2.2.1 (dot_mono l.shares ps qs (fun x hx => (hl.2.2.2.2 x hx).1) h)
  omega
theorem step_call_mono {l : LoanD} (hl : SmallL l) {d d' r r' : Int} {ps qs : List Int} (hd0 : 0 ≤ d) (hr0 : 0 ≤ r) (hd : d ≤ d') (hr : r ≤ r') (h : LeL ps qs) :
    (stepN l d r qs).call ≤ (stepN l d' r' ps).call := by
  have h1 := befN_mono hd0 hr0 hd hr
  have h2 := limN_mono hl.2.2.1 (dot_mono l.shares ps qs (fun x hx => (hl.2.2.2.2 x hx).1) h)
  simp only [stepN, callN]; omega

theorem step_after_nonneg {l : LoanD} (hl : SmallL l) {d r : Int} {ps : List Int} (hd0 : 0 ≤ d) (hr0 : 0 ≤ r) (h : ∀ x ∈ ps, 0 ≤ x) : 0 ≤ (stepN l d r ps).after := by
  rw [stepN_after]
  have h1 := befN_nonneg hd0 hr0
  have h2 := limN_nonneg hl.2.2.1 (dot_nonneg l.shares ps (fun x hx => (hl.2.2.2.2 x hx).1) h)
  omega
theorem st_succ (l : LoanD) (ps : List (List Int)) (rs : List Int) (n : Nat) : stN l ps rs (n + 1) = stepN l (stN l ps rs n).after (rs.getD (n + 1) 0) (ps.getD (n + 1) []) := rfl
theorem st_after_nonneg {l : LoanD} (hl : SmallL l) {ps : List (List Int)} {rs : List Int} (h : SmallT ps rs) (n : Nat) : 0 ≤ (stN l ps rs n).after := by
  induction n with
  | zero => exact step_after_nonneg hl hl.1 (h.2 0).1 (fun x hx => (h.1 0 x hx).1)
  | succ n ih => exact step_after_nonneg hl ih (h.2 (n + 1)).1 (fun x hx => (h.1 (n + 1) x hx).1)
/-- all debts of n days: small -/
theorem st_bd {l : LoanD} (hl : SmallL l) {ps : List (List Int)} {rs : List Int} (h : SmallT ps rs) (n : Nat) :
    0 ≤ (stN l ps rs n).before ∧ (n ≤ 10 → (stN l ps rs n).before ≤ 100000 + 2000 * (n + 1)) ∧ 0 ≤ (stN l ps rs n).value ∧ (stN l ps rs n).value ≤ 100000 * l.shares.length ∧ 0 ≤ (stN l ps rs n).call ∧ (stN l ps rs n).call ≤ (stN l ps rs n).before ∧ 0 ≤ (stN l ps rs n).after := by
  have key : ∀ d m : Nat, ∀ dd : Int, 0 ≤ dd → (n ≤ 10 → dd ≤ 100000 + 2000 * (n : Int)) → (stN l ps rs n = stepN l dd (rs.getD n 0) (ps.getD n [])) →
    0 ≤ (stN l ps rs n).before ∧ (n ≤ 10 → (stN l ps rs n).before ≤ 100000 + 2000 * (n + 1)) ∧ 0 ≤ (stN l ps rs n).value ∧ (stN l ps rs n).value ≤ 100000 * l.shares.length ∧ 0 ≤ (stN l ps rs n).call ∧ (stN l ps rs n).call ≤ (stN l ps rs n).before ∧ 0 ≤ (stN l ps rs n).after := by
    intro _ _ dd h0 h1 he
    have a1 := befN_nonneg h0 (h.2 n).1
    have a2 := befN_le h0 (h.2 n).1 (h.2 n).2
    have a3 := dot_nonneg l.shares (ps.getD n []) (fun x hx => (hl.2.2.2.2 x hx).1) (fun x hx => (h.1 n x hx).1)
    have a4 := dot_le l.shares (ps.getD n []) hl.2.2.2.2 (h.1 n)
    have a5 := limN_nonneg hl.2.2.1 a3
    rw [he]
    simp only [stepN, callN, St.after]
    refine ⟨a1, fun hn => ?_, a3, a4, by omega, by omega, by omega⟩
    have := h1 hn
    omega
  cases n with
  | zero => exact key 0 0 l.money hl.1 (fun _ => by have := hl.2.1; omega) rfl
  | succ n =>
    refine key 0 0 (stN l ps rs n).after (st_after_nonneg hl h n) ?_ rfl
    intro hn
    clear key
    induction n with
    | zero =>
      have a := stepN_after l l.money (rs.getD 0 0) (ps.getD 0 [])
      have a2 := befN_le hl.1 (h.2 0).1 (h.2 0).2
      have := hl.2.1
      show (stepN l l.money (rs.getD 0 0) (ps.getD 0 [])).after ≤ _
      omega
    | succ n ih =>
      have i := ih (by omega)
      have a := stepN_after l (stN l ps rs n).after (rs.getD (n + 1) 0) (ps.getD (n + 1) [])
      have a0 := st_after_nonneg hl h n
      have a2 := befN_le a0 (h.2 (n + 1)).1 (h.2 (n + 1)).2
      rw [st_succ]
      omega

/-- two truths, the second one nowhere smaller -/
def LeT (n : Nat) (ps qs : List (List Int)) (rs ss : List Int) : Prop := (∀ k, k ≤ n → LeL (ps.getD k []) (qs.getD k [])) ∧ (∀ k, k ≤ n → rs.getD k 0 ≤ ss.getD k 0)
theorem st_mono {l : LoanD} (hl : SmallL l) {ps qs : List (List Int)} {rs ss : List Int} (h : SmallT ps rs) (n : Nat) (hle : LeT n ps qs rs ss) : (stN l ps rs n).after ≤ (stN l qs ss n).after := by
  induction n with
  | zero => exact step_after_mono hl hl.1 (h.2 0).1 (Int.le_refl _) (hle.2 0 (Nat.le_refl _)) (hle.1 0 (Nat.le_refl _))
  | succ n ih =>
    rw [st_succ, st_succ]
    exact step_after_mono hl (st_after_nonneg hl h n) (h.2 (n + 1)).1 (ih ⟨fun k hk => hle.1 k (by omega), fun k hk => hle.2 k (by omega)⟩) (hle.2 (n + 1) (Nat.le_refl _)) (hle.1 (n + 1) (Nat.le_refl _))
/-- the call of day n is the greatest with the greatest debts before, the greatest rate, and the smallest prices -/
theorem st_call_mono {l : LoanD} (hl : SmallL l) {ps qs : List (List Int)} {rs ss : List Int} (h : SmallT ps rs) (n : Nat) (hp : ∀ k, k < n → LeL (ps.getD k []) (qs.getD k [])) (hr : ∀ k, k ≤ n → rs.getD k 0 ≤ ss.getD k 0)
    (hl' : LeL (qs.getD n []) (ps.getD n [])) : (stN l ps rs n).call ≤ (stN l qs ss n).call := by
  cases n with
  | zero => exact step_call_mono hl hl.1 (h.2 0).1 (Int.le_refl _) (hr 0 (Nat.le_refl _)) hl'
  | succ n =>
    rw [st_succ, st_succ]
    exact step_call_mono hl (st_after_nonneg hl h n) (h.2 (n + 1)).1 (st_mono hl h n ⟨fun k hk => hp k (by omega), fun k hk => hr k (by omega)⟩) (hr (n + 1) (Nat.le_refl _)) hl'
/-- only what lies up to day n matters -/
theorem st_congr {l : LoanD} {ps qs : List (List Int)} {rs ss : List Int} (n : Nat) (hp : ∀ k, k ≤ n → ps.getD k [] = qs.getD k []) (hr : ∀ k, k ≤ n → rs.getD k 0 = ss.getD k 0) : stN l ps rs n = stN l qs ss n := by
  induction n with
  | zero => simp only [stN]; rw [hp 0 (Nat.le_refl _), hr 0 (Nat.le_refl _)]
  | succ n ih => rw [st_succ, st_succ, ih (fun k hk => hp k (by omega)) (fun k hk => hr k (by omega)), hp _ (Nat.le_refl _), hr _ (Nat.le_refl _)]
end Go.Proofs.Ytfiacjdkdjkiiaa
