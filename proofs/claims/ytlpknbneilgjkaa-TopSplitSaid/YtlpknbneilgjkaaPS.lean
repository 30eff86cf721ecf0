/- The law TopSplit: the plain part. -/
import Derived.Test.YtlpknbneilgjkaaMX0
import Derived.Test.YtlpknbneilgjkaaMU
import Derived.Test.YtlpknbneilgjkaaMV0
import Derived.Test.YtlpknbneilgjkaaMMe0
import Derived.Test.YtlpknbneilgjkaaMMg
import Derived.Test.YtlpknbneilgjkaaK0
namespace Go.Proofs.Ytlpknbneilgjkaa.M
open Go Go.RowKit Go.Tl
set_option linter.unusedVariables false
set_option linter.unusedSimpArgs false
set_option maxRecDepth 100000
def lowR (p : Rng) : Int := p.lo.tdiv 6
def highR (p : Rng) : Int := p.lo.tdiv 6 + (p.hi - p.lo).tdiv 6
def rngM (m : Int) (p : Rng) : Rng := ⟨m * lowR p, m * highR p⟩
def dayM (m : Int) (d : DayD) : DayD := setP (rngM m (d.prices.getD 0 default)) d
def kL (l : LoanD) : Int := (l.shares.getD 0 0).tdiv 6
def loanM (s : Int) (l : LoanD) : LoanD := setS (s * kL l) l
def bankM (m s : Int) (b : BankD) : BankD := ⟨b.stocks, b.days.map (dayM m), b.loans.map (loanM s)⟩
theorem mem_at {l : List Int} {k : Nat} (hk : k < l.length) : l.getD k 0 ∈ l := by
  rw [List.getD_eq_getElem?_getD, List.getElem?_eq_getElem hk]
  exact List.getElem_mem hk
theorem map_getD {α β : Type} (f : α → β) (l : List α) (d : α) (e : β) (h : f d = e) (k : Nat) : (l.map f).getD k e = f (l.getD k d) := by
  subst h
  rw [List.getD_eq_getElem?_getD, List.getD_eq_getElem?_getD, List.getElem?_map]
  cases l[k]? <;> rfl
theorem bankM_day (m s : Int) (b : BankD) (k : Nat) : (bankM m s b).days.getD k default = dayM m (b.days.getD k default) := map_getD (dayM m) b.days default default rfl k
theorem bankM_loan (m s : Int) (b : BankD) (k : Nat) : (bankM m s b).loans.getD k default = loanM s (b.loans.getD k default) := map_getD (loanM s) b.loans default default rfl k
theorem bankM_len (m s : Int) (b : BankD) : (bankM m s b).days.length = b.days.length ∧ (bankM m s b).loans.length = b.loans.length := by simp [bankM]
theorem set0_getD {α : Type} {l : List α} {x d : α} {k : Nat} (hk : k < l.length) : (l.set 0 x).getD k d = if k = 0 then x else l.getD k d := by
  cases l with
  | nil => simp at hk
  | cons a l =>
    cases k with
    | zero => simp
    | succ k => simp
theorem td6 {x : Int} (h : 0 ≤ x) : x.tdiv 6 = x / 6 := Int.tdiv_eq_ediv_of_nonneg h
theorem mul_six {m x : Int} (hm : 1 ≤ m ∧ m ≤ 6) (hx : 0 ≤ x) : 0 ≤ m * x ∧ m * x ≤ 6 * x := ⟨Int.mul_nonneg (by omega) hx, Int.mul_le_mul_of_nonneg_right hm.2 hx⟩
theorem low_bd {p : Rng} (h : 0 ≤ p.lo ∧ p.lo ≤ p.hi ∧ p.hi ≤ 1000) : 0 ≤ lowR p ∧ lowR p ≤ highR p ∧ 6 * highR p ≤ 1000 := by
  have h1 := td6 h.1
  have h2 := td6 (x := p.hi - p.lo) (by omega)
  unfold lowR highR
  rw [h1, h2]
  omega
theorem rngM_bd {m : Int} {p : Rng} (hm : 1 ≤ m ∧ m ≤ 6) (h : 0 ≤ p.lo ∧ p.lo ≤ p.hi ∧ p.hi ≤ 1000) : 0 ≤ (rngM m p).lo ∧ (rngM m p).lo ≤ (rngM m p).hi ∧ (rngM m p).hi ≤ 1000 := by
  obtain ⟨h1, h2, h3⟩ := low_bd h
  have a1 := mul_six hm h1
  have a2 := mul_six (x := highR p) hm (by omega)
  have a3 : m * lowR p ≤ m * highR p := Int.mul_le_mul_of_nonneg_left h2 (by omega)
  show 0 ≤ m * lowR p ∧ m * lowR p ≤ m * highR p ∧ m * highR p ≤ 1000
  omega
theorem kL_bd {l : LoanD} (h : SmallL l) : 0 ≤ kL l ∧ 6 * kL l ≤ 100 := by
  have h1 : 0 ≤ l.shares.getD 0 0 ∧ l.shares.getD 0 0 ≤ 100 := by
    rcases Nat.lt_or_ge 0 l.shares.length with h0 | h0
    · refine h.2.2.2.2 _ ?_
      rw [List.getD_eq_getElem?_getD, List.getElem?_eq_getElem h0]
      exact List.getElem_mem h0
    · rw [List.getD_eq_getElem?_getD, List.getElem?_eq_none h0]; decide
  have h2 := td6 h1.1
  unfold kL
  rw [h2]
  omega
theorem bankM_v {m s : Int} {b : BankD} (hv : Valid b) (hm : 1 ≤ m ∧ m ≤ 6) (hs : 1 ≤ s ∧ s ≤ 6) : faultN (bankM m s b) = 0 := by
  have hst := hv.st
  have hd := hv.days
  have hl := hv.loans
  obtain ⟨e1, e2⟩ := bankM_len m s b
  refine fault_0 ?_ (bankB_ok hst.1 (by omega) (fun k hk => ?_) (fun k hk => ?_))
  · simp only [greatB, Bool.or_eq_false_iff, decide_eq_false_iff_not]
    refine ⟨⟨?_, by omega⟩, by omega⟩
    show ¬ 4 < b.stocks
    omega
  · rw [bankM_day]
    have hk' : k < b.days.length := by omega
    have hp := hv.plen k hk'
    have hr := hv.rate k hk'
    have hpr := hv.price k hk'
    refine dayB_ok ?_ (inB_iff.2 ⟨hr.1, hr.2.1⟩) (by show ¬ 100 < (b.days.getD k default).rate.hi; omega) (fun j hj => ?_)
    · show (((b.days.getD k default).prices.set 0 _).length : Int) = b.stocks
      rw [List.length_set]; exact hp
    · have hj' : j < (b.days.getD k default).prices.length := by
        have : ((b.days.getD k default).prices.set 0 (rngM m ((b.days.getD k default).prices.getD 0 default))).length = _ := List.length_set
        rw [← this]; exact hj
      show rngB (((b.days.getD k default).prices.set 0 _).getD j default) 1000 = true
      rw [set0_getD hj']
      have key : ∀ r : Rng, (0 ≤ r.lo ∧ r.lo ≤ r.hi ∧ r.hi ≤ 1000) → rngB r 1000 = true := fun r h => rngB_ok (inB_iff.2 ⟨h.1, h.2.1⟩) (by omega)
      split
      · exact key _ (rngM_bd hm (hpr 0 (by omega)))
      · exact key _ (hpr j hj')
  · rw [bankM_loan]
    have hk' : k < b.loans.length := by omega
    obtain ⟨hL, hn⟩ := hv.loan k hk'
    have hkl := kL_bd hL
    obtain ⟨h1, h2, h3, h4, h5⟩ := hL
    refine loanB_ok (inB_iff.2 ⟨h1, h2⟩) (inB_iff.2 ⟨h3, h4⟩) ?_ (fun j hj => ?_)
    · show (((b.loans.getD k default).shares.set 0 _).length : Int) = b.stocks
      rw [List.length_set]; exact hn
    · have hj' : j < (b.loans.getD k default).shares.length := by
        have : ((b.loans.getD k default).shares.set 0 (s * kL (b.loans.getD k default))).length = _ := List.length_set
        rw [← this]; exact hj
      show inB (((b.loans.getD k default).shares.set 0 _).getD j 0) 0 100 = true
      rw [set0_getD hj']
      split
      · have := mul_six hs hkl.1
        exact inB_iff.2 ⟨this.1, by omega⟩
      · exact inB_iff.2 (h5 _ (mem_at hj'))
theorem short_v {b : BankD} (hv : Valid b) : Short b := by
  have hst := hv.st
  have hd := hv.days
  have hl := hv.loans
  refine ⟨fun k hk => ?_, fun k hk => ?_, by omega, by omega⟩
  · have := hv.plen k hk; omega
  · have := (hv.loan k hk).2; omega
/-! ### the truths -/
def tRow (n : Int) (row : List Int) : List Int := row.set 0 ((row.getD 0 0).tdiv n * n)
def uRow (n d : Int) (row : List Int) : List Int := (tRow n row).set 0 (((tRow n row).getD 0 0).tdiv n * d)
def tT (n : Int) (t : TruthD) : TruthD := ⟨t.prices.map (tRow n), t.rates⟩
def uT (n d : Int) (t : TruthD) : TruthD := ⟨t.prices.map (uRow n d), t.rates⟩
theorem uRow_eq {n : Int} (hn : 1 ≤ n) (d : Int) (row : List Int) : uRow n d row = row.set 0 ((row.getD 0 0).tdiv n * d) := by
  cases row with
  | nil => rfl
  | cons a l =>
    show ((a.tdiv n * n).tdiv n * d) :: l = (a.tdiv n * d) :: l
    rw [Int.mul_tdiv_cancel _ (by omega)]
theorem div_bd {n m lo hi p : Int} (hn : 1 ≤ n) (hm : 1 ≤ m) (h0 : 0 ≤ lo) (h1 : n * lo ≤ p) (h2 : p ≤ n * hi) : m * lo ≤ p.tdiv n * m ∧ p.tdiv n * m ≤ m * hi := by
  have hp : 0 ≤ p := Int.le_trans (Int.mul_nonneg (by omega) h0) h1
  have e : p.tdiv n = p / n := Int.tdiv_eq_ediv_of_nonneg hp
  rw [e, Int.mul_comm (p / n) m]
  have a1 : lo ≤ p / n := (Int.le_ediv_iff_mul_le (by omega)).2 (by rw [Int.mul_comm]; exact h1)
  have a2 : p / n ≤ hi := by
    have : p / n * n ≤ hi * n := Int.le_trans (Int.ediv_mul_le p (by omega)) (by rw [Int.mul_comm hi]; exact h2)
    exact Int.le_of_mul_le_mul_right this (by omega)
  exact ⟨Int.mul_le_mul_of_nonneg_left a1 (by omega), Int.mul_le_mul_of_nonneg_left a2 (by omega)⟩
theorem truth_set {n m s s' : Int} {b : BankD} {t : TruthD} (hv : Valid b) (hn : 1 ≤ n) (hm : 1 ≤ m) (ht : truthB (bankM n s b) t = true) : truthB (bankM m s' b) ⟨t.prices.map (fun row => row.set 0 ((row.getD 0 0).tdiv n * m)), t.rates⟩ = true := by
  obtain ⟨e1, e2⟩ := truthB_len ht
  have l1 := (bankM_len n s b).1
  have l2 := (bankM_len m s' b).1
  simp only [truthB, Bool.and_eq_true, decide_eq_true_eq]
  refine ⟨⟨by rw [List.length_map]; omega, by omega⟩, rangeAll_true fun i hi => ?_⟩
  have hi' : i < b.days.length := by omega
  obtain ⟨h1, h2, h3⟩ := truthB_day ht (k := i) (by omega)
  rw [bankM_day] at h2 h3
  have hpl := hv.plen i hi'
  have hst := hv.st
  have hs1 : (bankM n s b).stocks = b.stocks := rfl
  rw [hs1] at h1
  simp only [dayOkB, Bool.and_eq_true, decide_eq_true_eq]
  rw [bankM_day, map_getD (fun row : List Int => row.set 0 ((row.getD 0 0).tdiv n * m)) t.prices [] [] rfl i, List.length_set]
  refine ⟨⟨h1, h2⟩, ?_⟩
  have lm : ∀ q, (dayM q (b.days.getD i default)).prices.length = (b.days.getD i default).prices.length := fun q => List.length_set
  refine List.all_eq_true.2 fun k hk => ?_
  rw [List.mem_range, lm] at hk
  have h4 := h3 k (by rw [lm]; exact hk)
  have hrow : k < (t.prices.getD i []).length := by omega
  have q1 : (dayM m (b.days.getD i default)).prices.getD k default = if k = 0 then rngM m ((b.days.getD i default).prices.getD 0 default) else (b.days.getD i default).prices.getD k default := set0_getD hk
  have q2 : (dayM n (b.days.getD i default)).prices.getD k default = if k = 0 then rngM n ((b.days.getD i default).prices.getD 0 default) else (b.days.getD i default).prices.getD k default := set0_getD hk
  rw [q1, set0_getD hrow]
  rw [q2] at h4
  by_cases k0 : k = 0
  · rw [if_pos k0] at h4 ⊢
    rw [if_pos k0]
    subst k0
    have hp := hv.price i hi' 0 hk
    have hlb := low_bd hp
    obtain ⟨a1, a2⟩ := inB_iff.1 h4
    exact inB_iff.2 (div_bd hn hm hlb.1 a1 a2)
  · rw [if_neg k0] at h4 ⊢
    rw [if_neg k0]
    exact h4
theorem tT_truth {n s : Int} {b : BankD} {t : TruthD} (hv : Valid b) (hn : 1 ≤ n) (ht : truthB (bankM n s b) t = true) : truthB (bankM n s b) (tT n t) = true := truth_set hv hn hn ht
theorem uT_truth {n d s s' : Int} {b : BankD} {t : TruthD} (hv : Valid b) (hn : 1 ≤ n) (hd : 1 ≤ d) (ht : truthB (bankM n s b) t = true) : truthB (bankM d s' b) (uT n d t) = true := by
  have h := truth_set (s' := s') hv hn hd ht
  have e : uT n d t = ⟨t.prices.map (fun row => row.set 0 ((row.getD 0 0).tdiv n * d)), t.rates⟩ := by
    unfold uT
    rw [show (uRow n d) = (fun row => row.set 0 ((row.getD 0 0).tdiv n * d)) from funext fun row => uRow_eq hn d row]
  rw [e]
  exact h
/-! ### the same money -/
theorem st_same {l l' : LoanD} {ps qs : List (List Int)} {rs : List Int} (h1 : l.money = l'.money) (h2 : l.margin = l'.margin) (h3 : ∀ k, dot l.shares (ps.getD k []) = dot l'.shares (qs.getD k [])) (n : Nat) : stN l ps rs n = stN l' qs rs n := by
  induction n with
  | zero => simp only [stN, stepN, h1, h2, h3]
  | succ n ih => simp only [stN, stepN, h2, h3, ih]
theorem dot_set {l : List Int} {row row' : List Int} {x y p q : Int} (h : x * p = y * q) (hr : row.set 0 p = row'.set 0 p) (hl : row.length = row'.length) : dot (l.set 0 x) (row.set 0 p) = dot (l.set 0 y) (row'.set 0 q) := by
  cases l with
  | nil => rfl
  | cons a l =>
    cases row with
    | nil =>
      cases row' with
      | nil => rfl
      | cons c row' => simp at hl
    | cons c row =>
      cases row' with
      | nil => simp at hl
      | cons c' row' =>
        simp only [List.set_cons_zero, List.cons.injEq, true_and] at hr
        subst hr
        show x * p + dot l row = y * q + dot l row
        rw [h]
theorem cross {d k n c : Int} : (d * k) * (c * n) = (n * k) * (c * d) := by
  rw [Int.mul_assoc, Int.mul_assoc, Int.mul_comm c n, Int.mul_comm c d, Int.mul_left_comm k n c, Int.mul_left_comm k d c, Int.mul_left_comm d n]
theorem play_st {n d : Int} (hn : 1 ≤ n) (b : BankD) (t : TruthD) (i j : Nat) : allSt (bankM n d b).loans (tT n t).prices (tT n t).rates i j = allSt (bankM d n b).loans (uT n d t).prices (uT n d t).rates i j := by
  unfold allSt
  rw [bankM_loan, bankM_loan]
  refine st_same (l := loanM d (b.loans.getD i default)) (l' := loanM n (b.loans.getD i default)) rfl rfl (fun k => ?_) j
  have a1 : (tT n t).prices.getD k [] = tRow n (t.prices.getD k []) := map_getD (tRow n) t.prices [] [] rfl k
  have a2 : (uT n d t).prices.getD k [] = uRow n d (t.prices.getD k []) := map_getD (uRow n d) t.prices [] [] rfl k
  rw [a1, a2, uRow_eq hn]
  exact dot_set cross rfl rfl
theorem debts_same {n d : Int} (hn : 1 ≤ n) (b : BankD) (t : TruthD) (k : Nat) : debtsP (bankM n d b) (tT n t) k = debtsP (bankM d n b) (uT n d t) k := by
  unfold debtsP debtsR
  rw [(bankM_len n d b).1, (bankM_len d n b).1]
  simp only [play_st hn]
theorem calls_same {n d : Int} (hn : 1 ≤ n) (b : BankD) (t : TruthD) (k : Nat) : callsP (bankM n d b) (tT n t) k = callsP (bankM d n b) (uT n d t) k := by
  unfold callsP callsR
  rw [(bankM_len n d b).1, (bankM_len d n b).1]
  simp only [play_st hn]
theorem sel_m (h : Bool) (m : Int) (p : Rng) : sel h (rngM m p) = sel h ⟨lowR p, highR p⟩ * m := by
  cases h
  · exact Int.mul_comm _ _
  · exact Int.mul_comm _ _
theorem end_same (b : BankD) (n d : Int) (hi last : Bool) (i j : Nat) : endSt (bankM n d b) hi last i j = endSt (bankM d n b) hi last i j := by
  unfold endSt allSt
  rw [bankM_loan, bankM_loan]
  have er : endRs (bankM n d b) hi j = endRs (bankM d n b) hi j := by
    unfold endRs
    simp only [bankM_day]
    rfl
  rw [er]
  refine st_same (l := loanM d (b.loans.getD i default)) (l' := loanM n (b.loans.getD i default)) rfl rfl (fun k => ?_) j
  by_cases hk : k ≤ j
  · rw [endPs_get _ _ _ _ _ hk, endPs_get _ _ _ _ _ hk]
    unfold endRow
    rw [bankM_day, bankM_day]
    show dot (List.set _ 0 _) (List.map _ (List.set _ 0 _)) = dot (List.set _ 0 _) (List.map _ (List.set _ 0 _))
    rw [List.map_set, List.map_set, sel_m, sel_m]
    exact dot_set cross rfl rfl
  · have h0 : ∀ l : List Int, dot l [] = 0 := fun l => by cases l <;> rfl
    have hx : ∀ c : BankD, (endPs c hi last j).getD k [] = [] := fun c => by
      rw [List.getD_eq_getElem?_getD, List.getElem?_eq_none (by simp [endPs]; omega)]
      rfl
    rw [hx, hx, h0, h0]
theorem debtsL_same (b : BankD) (n d : Int) (i : Nat) : debtsL (bankM n d b) i = debtsL (bankM d n b) i := by
  unfold debtsL debtsN
  rw [(bankM_len n d b).1, (bankM_len d n b).1]
  simp only [end_same b n d]
theorem callsL_same (b : BankD) (n d : Int) (i : Nat) : callsL (bankM n d b) i = callsL (bankM d n b) i := by
  unfold callsL callsN
  rw [(bankM_len n d b).1, (bankM_len d n b).1]
  simp only [end_same b n d]
/-! ### the units -/
theorem units {n d k : Int} (hn : 1 ≤ n ∧ n ≤ 6) (hd : 1 ≤ d ∧ d ≤ 4) : d * k * K.uN ⟨3, n, d⟩ 3 = 720 * (n * k) := by
  have e : K.uN ⟨3, n, d⟩ 3 = 720 * n / d := by
    show (if (3 : Int) ≤ 3 then (720 * n).tdiv d else 720) = _
    rw [if_pos (by decide)]
    exact Int.tdiv_eq_ediv_of_nonneg (by omega)
  rw [e]
  have hd' : d = 1 ∨ d = 2 ∨ d = 3 ∨ d = 4 := by omega
  have hn' : n = 1 ∨ n = 2 ∨ n = 3 ∨ n = 4 ∨ n = 5 ∨ n = 6 := by omega
  rcases hd' with rfl | rfl | rfl | rfl <;> rcases hn' with rfl | rfl | rfl | rfl | rfl | rfl <;> simp <;> omega
theorem units_div {n d k : Int} (hn : 1 ≤ n ∧ n ≤ 6) (hd : 1 ≤ d ∧ d ≤ 4) : (d * k * K.uN ⟨3, n, d⟩ 3).tdiv 720 = n * k ∧ (d * k * K.uN ⟨3, n, d⟩ 3).tmod 720 = 0 := by
  rw [units hn hd]
  exact ⟨Int.mul_tdiv_cancel_left _ (by decide), Int.mul_tmod_right _ _⟩
/-! ### the loop over the rows of prices -/
def mixR (n : Int) (ps : List (List Int)) (i : Nat) : List (List Int) := (List.range ps.length).map fun j => if j < i then tRow n (ps.getD j []) else ps.getD j []
theorem mix_len {n : Int} {ps : List (List Int)} {i : Nat} : (mixR n ps i).length = ps.length := by simp [mixR]
theorem mix_0 {n : Int} {ps : List (List Int)} : mixR n ps 0 = ps := by
  refine List.ext_getElem (by simp [mixR]) fun k h1 h2 => ?_
  simp [mixR, List.getD_eq_getElem?_getD, h2]
theorem mix_end {n : Int} {ps : List (List Int)} : mixR n ps ps.length = ps.map (tRow n) := by
  refine List.ext_getElem (by simp [mixR]) fun k h1 h2 => ?_
  have h3 : k < ps.length := by simpa using h2
  simp [mixR, List.getD_eq_getElem?_getD, h3]
theorem mix_at {n : Int} {ps : List (List Int)} {i : Nat} (hi : i < ps.length) : ((mixR n ps i).map lstRow).getD i [] = [.t (intsT true (ps.getD i []))] := by
  simp [mixR, List.getD_eq_getElem?_getD, hi, lstRow]
theorem mix_set {n : Int} {ps : List (List Int)} {i : Nat} (hi : i < ps.length) : ((mixR n ps i).map lstRow).set i (spA (((mixR n ps i).map lstRow).getD i []) 0 [.t (intsT true (tRow n (ps.getD i [])))]) = (mixR n ps (i + 1)).map lstRow := by
  rw [mix_at hi]
  refine List.ext_getElem (by simp [mixR]) fun k h1 h2 => ?_
  have h3 : k < ps.length := by simpa [mixR] using h2
  rw [List.getElem_set]
  by_cases e : i = k
  · subst e
    rw [if_pos rfl]
    simp [mixR, List.getD_eq_getElem?_getD, hi, lstRow, spA]
  · rw [if_neg e]
    have e2 : (k < i + 1) = (k < i) := by simp; omega
    simp [mixR, List.getD_eq_getElem?_getD, h3, lstRow, e2]
end Go.Proofs.Ytlpknbneilgjkaa.M
