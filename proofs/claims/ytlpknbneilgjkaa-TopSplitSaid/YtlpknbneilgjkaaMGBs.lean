/- Joined texts: Base, Plain, Vd, Vt, Pq. -/
import Derived.WalkKit
import Derived.WalkSpells
import Derived.Lib.Hide
import Derived.Deep.QuietTactic
import Derived.BigQuiet
import Derived.Test.YtlpknbneilgjkaaTt
import Derived.Test.YtlpknbneilgjkaaGOb
import Derived.Test.YtlpknbneilgjkaaGPa
import Derived.Test.YtlpknbneilgjkaaGTs
import Derived.Test.YtlpknbneilgjkaaGTy
section
namespace Go.Proofs.Ytlpknbneilgjkaa.M
open Go.RowKit
set_option linter.unusedVariables false

structure Rng where
  lo : Int
  hi : Int
  deriving Inhabited, DecidableEq

structure DayD where
  prices : List Rng
  rate : Rng
  deriving Inhabited, DecidableEq

structure LoanD where
  money : Int
  margin : Int
  shares : List Int
  deriving Inhabited, DecidableEq

structure BankD where
  stocks : Int
  days : List DayD
  loans : List LoanD
  deriving Inhabited, DecidableEq

structure TruthD where
  prices : List (List Int)
  rates : List Int
  deriving Inhabited, DecidableEq

def IntsAt (w : World) (a : Option Addr) (xs : List Int) : Prop :=
  ∀ k, k < xs.length → ∃ b off, a = some ⟨b, off, none⟩ ∧ w.cell? ⟨b, off + k, none⟩ = some (.int .i64 (xs.getD k 0))

def RngsAt (w : World) (a : Option Addr) (rs : List Rng) : Prop :=
  ∀ k, k < rs.length → ∃ b off, a = some ⟨b, off, none⟩ ∧ w.cell? ⟨b, off + k * 2, none⟩ = some (.int .i64 (rs.getD k default).lo) ∧
    w.cell? ⟨b, off + k * 2 + 1, none⟩ = some (.int .i64 (rs.getD k default).hi)

def RowsAt (w : World) (a : Option Addr) (xs : List (List Int)) : Prop :=
  ∀ k, k < xs.length → ∃ b off pa pc, a = some ⟨b, off, none⟩ ∧ w.cell? ⟨b, off + k, none⟩ = some (.slice pa (xs.getD k []).length pc) ∧ IntsAt w pa (xs.getD k [])

def DaysAt (w : World) (a : Option Addr) (ds : List DayD) : Prop :=
  ∀ k, k < ds.length → ∃ b off pa pc, a = some ⟨b, off, none⟩ ∧ w.cell? ⟨b, off + k * 3, none⟩ = some (.slice pa (ds.getD k default).prices.length pc) ∧
    w.cell? ⟨b, off + k * 3 + 1, none⟩ = some (.int .i64 (ds.getD k default).rate.lo) ∧ w.cell? ⟨b, off + k * 3 + 2, none⟩ = some (.int .i64 (ds.getD k default).rate.hi) ∧
    RngsAt w pa (ds.getD k default).prices

def LoansAt (w : World) (a : Option Addr) (ls : List LoanD) : Prop :=
  ∀ k, k < ls.length → ∃ b off pa pc, a = some ⟨b, off, none⟩ ∧ w.cell? ⟨b, off + k * 3, none⟩ = some (.int .i64 (ls.getD k default).money) ∧
    w.cell? ⟨b, off + k * 3 + 1, none⟩ = some (.int .i64 (ls.getD k default).margin) ∧ w.cell? ⟨b, off + k * 3 + 2, none⟩ = some (.slice pa (ls.getD k default).shares.length pc) ∧
    IntsAt w pa (ls.getD k default).shares

def BankAt (w : World) (da la : Option Addr) (b : BankD) : Prop := DaysAt w da b.days ∧ LoansAt w la b.loans
/-! ### what is valid -/
def inB (n lo hi : Int) : Bool := decide (lo ≤ n ∧ n ≤ hi)
def rngB (r : Rng) (m : Int) : Bool := inB r.lo 0 r.hi && decide (r.hi ≤ m)
def dayB (s : Int) (d : DayD) : Bool := decide ((d.prices.length : Int) = s) && rngB d.rate 100 && d.prices.all (rngB · 1000)
def loanB (s : Int) (l : LoanD) : Bool := inB l.money 0 100000 && inB l.margin 0 100 && decide ((l.shares.length : Int) = s) && l.shares.all (inB · 0 100)
def greatB (b : BankD) : Bool := decide (4 < b.stocks) || decide (4 < b.days.length) || decide (4 < b.loans.length)
def bankB (b : BankD) : Bool := decide (1 ≤ b.stocks) && !b.days.isEmpty && b.days.all (dayB b.stocks) && b.loans.all (loanB b.stocks)
def faultN (b : BankD) : Int := if greatB b then 3 else if bankB b then 0 else 1

theorem all_getD {α : Type} {d : α} {l : List α} {p : α → Bool} : l.all p = true ↔ ∀ k, k < l.length → p (l.getD k d) = true := by
  rw [List.all_eq_true]
  constructor
  · intro h k hk
    rw [List.getD_eq_getElem?_getD, List.getElem?_eq_getElem hk]
    exact h _ (List.getElem_mem hk)
  · intro h x hx
    obtain ⟨k, hk, rfl⟩ := List.getElem_of_mem hx
    have := h k hk
    rw [List.getD_eq_getElem?_getD, List.getElem?_eq_getElem hk] at this
    exact this
end Go.Proofs.Ytlpknbneilgjkaa.M
end
section
namespace Go.Proofs.Ytlpknbneilgjkaa.M
set_option linter.unusedVariables false

/-! ### the value of shares -/
def dot : List Int → List Int → Int
  | x :: xs, p :: ps => x * p + dot xs ps
  | _, _ => 0

/-! ### a loan, day by day -/
structure St where
  before : Int
  value : Int
  call : Int
  deriving Inhabited, DecidableEq
def St.after (s : St) : Int := s.before - s.call
def befN (debt rate : Int) : Int := debt + debt * rate / 10000
def limN (val margin : Int) : Int := 100 * val / (100 + margin)
def callN (bef val margin : Int) : Int := max 0 (bef - limN val margin)
def stepN (l : LoanD) (debt rate : Int) (ps : List Int) : St := ⟨befN debt rate, dot l.shares ps, callN (befN debt rate) (dot l.shares ps) l.margin⟩
def stN (l : LoanD) (ps : List (List Int)) (rs : List Int) : Nat → St
  | 0 => stepN l l.money (rs.getD 0 0) (ps.getD 0 [])
  | n + 1 => stepN l (stN l ps rs n).after (rs.getD (n + 1) 0) (ps.getD (n + 1) [])

def SmallT (ps : List (List Int)) (rs : List Int) : Prop := (∀ n x, x ∈ ps.getD n [] → 0 ≤ x ∧ x ≤ 1000) ∧ (∀ n, 0 ≤ rs.getD n 0 ∧ rs.getD n 0 ≤ 100)
def SmallL (l : LoanD) : Prop := 0 ≤ l.money ∧ l.money ≤ 100000 ∧ 0 ≤ l.margin ∧ l.margin ≤ 100 ∧ (∀ x ∈ l.shares, 0 ≤ x ∧ x ≤ 100)

theorem dot_nonneg (xs ps : List Int) (hx : ∀ x ∈ xs, 0 ≤ x) (hp : ∀ x ∈ ps, 0 ≤ x) : 0 ≤ dot xs ps := by
  induction xs generalizing ps with
  | nil => cases ps <;> simp [dot]
  | cons x xs ih =>
    cases ps with
    | nil => simp [dot]
    | cons p ps =>
      have h1 := ih ps (fun y hy => hx y (by simp [hy])) (fun y hy => hp y (by simp [hy]))
      have h2 := Int.mul_nonneg (hx x (by simp)) (hp p (by simp))
      simp only [dot]; omega
theorem dot_le (xs ps : List Int) (hx : ∀ x ∈ xs, 0 ≤ x ∧ x ≤ 100) (hp : ∀ x ∈ ps, 0 ≤ x ∧ x ≤ 1000) : dot xs ps ≤ 100000 * xs.length := by
  induction xs generalizing ps with
  | nil => cases ps <;> simp [dot]
  | cons x xs ih =>
    cases ps with
    | nil => simp only [dot, List.length_cons]; omega
    | cons p ps =>
      have h1 := ih ps (fun y hy => hx y (by simp [hy])) (fun y hy => hp y (by simp [hy]))
      have hxx := hx x (by simp)
      have hpp := hp p (by simp)
      have h2 : x * p ≤ 100 * 1000 := Int.le_trans (Int.mul_le_mul_of_nonneg_right hxx.2 hpp.1) (Int.mul_le_mul_of_nonneg_left hpp.2 (by omega))
      simp only [dot, List.length_cons]; omega
def LeL : List Int → List Int → Prop
  | [], [] => True
  | x :: xs, y :: ys => x ≤ y ∧ LeL xs ys
  | _, _ => False
theorem LeL.refl (l : List Int) : LeL l l := by
  induction l with
  | nil => trivial
  | cons x l ih => exact ⟨Int.le_refl _, ih⟩
theorem LeL.trans {a b c : List Int} (h : LeL a b) (k : LeL b c) : LeL a c := by
  induction a generalizing b c with
  | nil => cases b with
    | nil => exact k
    | cons => exact h.elim
  | cons x a ih => cases b with
    | nil => exact h.elim
    | cons y b => cases c with
      | nil => exact k.elim
      | cons z c => exact ⟨Int.le_trans h.1 k.1, ih h.2 k.2⟩
theorem LeL.length {a b : List Int} (h : LeL a b) : a.length = b.length := by
  induction a generalizing b with
  | nil => cases b with
    | nil => rfl
    | cons => exact h.elim
  | cons x a ih => cases b with
    | nil => exact h.elim
    | cons y b => simp [ih h.2]
theorem LeL.getD {a b : List Int} (h : LeL a b) (k : Nat) (d : Int) : a.getD k d ≤ b.getD k d := by
  induction a generalizing b k with
  | nil => cases b with
    | nil => exact Int.le_refl _
    | cons => exact h.elim
  | cons x a ih => cases b with
    | nil => exact h.elim
    | cons y b => cases k with
      | zero => simpa using h.1
      | succ k => simpa using ih h.2 k
/-! ### monotone -/
theorem befN_nonneg {d r : Int} (hd : 0 ≤ d) (hr : 0 ≤ r) : 0 ≤ befN d r := by
  have h1 := Int.ediv_nonneg (Int.mul_nonneg hd hr) (show (0:Int) ≤ 10000 by omega)
  unfold befN; omega
theorem befN_le {d r : Int} (hd0 : 0 ≤ d) (hr0 : 0 ≤ r) (hr : r ≤ 100) : befN d r ≤ d + d / 100 := by
  have h1 : d * r ≤ d * 100 := Int.mul_le_mul_of_nonneg_left hr hd0
  have h2 := Int.ediv_le_ediv (show (0:Int) < 10000 by omega) h1
  unfold befN; omega
theorem limN_nonneg {v m : Int} (hm : 0 ≤ m) (h : 0 ≤ v) : 0 ≤ limN v m := by
  unfold limN
  exact Int.ediv_nonneg (by omega) (by omega)
theorem stepN_after (l : LoanD) (d r : Int) (ps : List Int) : (stepN l d r ps).after = min (befN d r) (limN (dot l.shares ps) l.margin) := by
  simp only [stepN, St.after, callN]; omega
theorem step_after_nonneg {l : LoanD} (hl : SmallL l) {d r : Int} {ps : List Int} (hd0 : 0 ≤ d) (hr0 : 0 ≤ r) (h : ∀ x ∈ ps, 0 ≤ x) : 0 ≤ (stepN l d r ps).after := by
  rw [stepN_after]
  have h1 := befN_nonneg hd0 hr0
  have h2 := limN_nonneg hl.2.2.1 (dot_nonneg l.shares ps (fun x hx => (hl.2.2.2.2 x hx).1) h)
  omega
theorem st_succ (l : LoanD) (ps : List (List Int)) (rs : List Int) (n : Nat) : stN l ps rs (n + 1) = stepN l (stN l ps rs n).after (rs.getD (n + 1) 0) (ps.getD (n + 1) []) := rfl
theorem st_after_nonneg {l : LoanD} (hl : SmallL l) {ps : List (List Int)} {rs : List Int} (h : SmallT ps rs) (n : Nat) : 0 ≤ (stN l ps rs n).after := by
  induction n with
  | zero => exact step_after_nonneg hl hl.1 (h.2 0).1 (fun x hx => (h.1 0 x hx).1)
  | succ n ih => exact step_after_nonneg hl ih (h.2 (n + 1)).1 (fun x hx => (h.1 (n + 1) x hx).1)
theorem st_bd {l : LoanD} (hl : SmallL l) {ps : List (List Int)} {rs : List Int} (h : SmallT ps rs) (n : Nat) :
    0 ≤ (stN l ps rs n).before ∧ (n ≤ 10 → (stN l ps rs n).before ≤ 100000 + 2000 * (n + 1)) ∧ 0 ≤ (stN l ps rs n).value ∧ (stN l ps rs n).value ≤ 100000 * l.shares.length ∧ 0 ≤ (stN l ps rs n).call ∧ (stN l ps rs n).call ≤ (stN l ps rs n).before ∧ 0 ≤ (stN l ps rs n).after := by
  have key : ∀ d m : Nat, ∀ dd : Int, 0 ≤ dd → (n ≤ 10 → dd ≤ 100000 + 2000 * (n : Int)) → (stN l ps rs n = stepN l dd (rs.getD n 0) (ps.getD n [])) →
    0 ≤ (stN l ps rs n).before ∧ (n ≤ 10 → (stN l ps rs n).before ≤ 100000 + 2000 * (n + 1)) ∧ 0 ≤ (stN l ps rs n).value ∧ (stN l ps rs n).value ≤ 100000 * l.shares.length ∧ 0 ≤ (stN l ps rs n).call ∧ (stN l ps rs n).call ≤ (stN l ps rs n).before ∧ 0 ≤ (stN l ps rs n).after := by
    intro _ _ dd h0 h1 he
    have a1 := befN_nonneg h0 (h.2 n).1
    have a2 := befN_le h0 (h.2 n).1 (h.2 n).2
    have a3 := dot_nonneg l.shares (ps.getD n []) (fun x hx => (hl.2.2.2.2 x hx).1) (fun x hx => (h.1 n x hx).1)
    have a4 := dot_le l.shares (ps.getD n []) hl.2.2.2.2 (h.1 n)
    have a5 := limN_nonneg hl.2.2.1 a3
    rw [he]
    simp only [stepN, callN, St.after]
    refine ⟨a1, fun hn => ?_, a3, a4, by omega, by omega, by omega⟩
    have := h1 hn
    omega
  cases n with
  | zero => exact key 0 0 l.money hl.1 (fun _ => by have := hl.2.1; omega) rfl
  | succ n =>
    refine key 0 0 (stN l ps rs n).after (st_after_nonneg hl h n) ?_ rfl
    intro hn
    clear key
    induction n with
    | zero =>
      have a := stepN_after l l.money (rs.getD 0 0) (ps.getD 0 [])
      have a2 := befN_le hl.1 (h.2 0).1 (h.2 0).2
      have := hl.2.1
      show (stepN l l.money (rs.getD 0 0) (ps.getD 0 [])).after ≤ _
      omega
    | succ n ih =>
      have i := ih (by omega)
      have a := stepN_after l (stN l ps rs n).after (rs.getD (n + 1) 0) (ps.getD (n + 1) [])
      have a0 := st_after_nonneg hl h n
      have a2 := befN_le a0 (h.2 (n + 1)).1 (h.2 (n + 1)).2
      rw [st_succ]
      omega

theorem st_congr {l : LoanD} {ps qs : List (List Int)} {rs ss : List Int} (n : Nat) (hp : ∀ k, k ≤ n → ps.getD k [] = qs.getD k []) (hr : ∀ k, k ≤ n → rs.getD k 0 = ss.getD k 0) : stN l ps rs n = stN l qs ss n := by
  induction n with
  | zero => simp only [stN]; rw [hp 0 (Nat.le_refl _), hr 0 (Nat.le_refl _)]
  | succ n ih => rw [st_succ, st_succ, ih (fun k hk => hp k (by omega)) (fun k hk => hr k (by omega)), hp _ (Nat.le_refl _), hr _ (Nat.le_refl _)]
end Go.Proofs.Ytlpknbneilgjkaa.M
end
section
namespace Go.Proofs.Ytlpknbneilgjkaa.M
open Go.RowKit
set_option linter.unusedVariables false
set_option linter.unusedSimpArgs false
structure Valid (b : BankD) : Prop where
  st : 1 ≤ b.stocks ∧ b.stocks ≤ 4
  days : 1 ≤ b.days.length ∧ b.days.length ≤ 4
  loans : b.loans.length ≤ 4
  plen : ∀ i, i < b.days.length → ((b.days.getD i default).prices.length : Int) = b.stocks
  price : ∀ i, i < b.days.length → ∀ k, k < (b.days.getD i default).prices.length → 0 ≤ ((b.days.getD i default).prices.getD k default).lo ∧ ((b.days.getD i default).prices.getD k default).lo ≤ ((b.days.getD i default).prices.getD k default).hi ∧ ((b.days.getD i default).prices.getD k default).hi ≤ 1000
  rate : ∀ i, i < b.days.length → 0 ≤ (b.days.getD i default).rate.lo ∧ (b.days.getD i default).rate.lo ≤ (b.days.getD i default).rate.hi ∧ (b.days.getD i default).rate.hi ≤ 100
  loan : ∀ i, i < b.loans.length → SmallL (b.loans.getD i default) ∧ ((b.loans.getD i default).shares.length : Int) = b.stocks
theorem mem_getD {α : Type} {l : List α} {x d : α} (h : x ∈ l) : ∃ k, k < l.length ∧ l.getD k d = x := by
  obtain ⟨k, hk, rfl⟩ := List.getElem_of_mem h
  exact ⟨k, hk, by simp [List.getD_eq_getElem?_getD, hk]⟩
theorem valid_of {b : BankD} (h : faultN b = 0) : Valid b := by
  unfold faultN at h
  split at h
  · omega
  · rename_i hg
    split at h
    · rename_i hb
      simp only [greatB, Bool.or_eq_true, decide_eq_true_eq, not_or] at hg
      simp only [bankB, Bool.and_eq_true, decide_eq_true_eq] at hb
      obtain ⟨⟨⟨h1, h2⟩, h3⟩, h4⟩ := hb
      have hd := (all_getD (d := (default : DayD))).1 h3
      have hl := (all_getD (d := (default : LoanD))).1 h4
      have h2' : 1 ≤ b.days.length := by
        cases e : b.days with
        | nil => rw [e] at h2; simp at h2
        | cons => simp
      refine ⟨⟨h1, by omega⟩, ⟨h2', by omega⟩, by omega, fun i hi => ?_, fun i hi k hk => ?_, fun i hi => ?_, fun i hi => ?_⟩
      · have := hd i hi
        simp only [dayB, Bool.and_eq_true, decide_eq_true_eq] at this
        exact this.1.1
      · have := hd i hi
        simp only [dayB, Bool.and_eq_true] at this
        have h5 := (all_getD (d := (default : Rng))).1 this.2 k hk
        simp only [rngB, inB, Bool.and_eq_true, decide_eq_true_eq] at h5
        exact ⟨h5.1.1, h5.1.2, h5.2⟩
      · have := hd i hi
        simp only [dayB, Bool.and_eq_true, rngB, inB, decide_eq_true_eq] at this
        exact ⟨this.1.2.1.1, this.1.2.1.2, this.1.2.2⟩
      · have := hl i hi
        simp only [loanB, Bool.and_eq_true, inB, decide_eq_true_eq] at this
        refine ⟨⟨this.1.1.1.1, this.1.1.1.2, this.1.1.2.1, this.1.1.2.2, fun x hx => ?_⟩, this.1.2⟩
        obtain ⟨k, hk, rfl⟩ := mem_getD (d := (0 : Int)) hx
        have h5 := (all_getD (d := (0 : Int))).1 this.2 k hk
        simpa using h5
    · omega
def allSt (ls : List LoanD) (ps : List (List Int)) (rs : List Int) (i n : Nat) : St := stN (ls.getD i default) ps rs n
end Go.Proofs.Ytlpknbneilgjkaa.M
end
section
namespace Go.Proofs.Ytlpknbneilgjkaa.M
open Go.RowKit
set_option linter.unusedVariables false
def rowB (d : DayD) (row : List Int) : Bool := (List.range d.prices.length).all fun k => inB (row.getD k 0) (d.prices.getD k default).lo (d.prices.getD k default).hi
def dayOkB (b : BankD) (t : TruthD) (i : Nat) : Bool := decide (((t.prices.getD i []).length : Int) = b.stocks) && inB (t.rates.getD i 0) (b.days.getD i default).rate.lo (b.days.getD i default).rate.hi && rowB (b.days.getD i default) (t.prices.getD i [])
def truthB (b : BankD) (t : TruthD) : Bool := decide (t.prices.length = b.days.length) && decide (t.rates.length = b.days.length) && (List.range b.days.length).all (dayOkB b t)
theorem rangeAll_false {p : Nat → Bool} {n k : Nat} (h : k < n) (hp : p k = false) : (List.range n).all p = false := by
  cases e : (List.range n).all p
  · rfl
  · rw [List.all_eq_true.1 e k (List.mem_range.2 h)] at hp; cases hp
theorem rangeAll_true {p : Nat → Bool} {n : Nat} (h : ∀ k, k < n → p k = true) : (List.range n).all p = true := List.all_eq_true.2 fun k hk => h k (List.mem_range.1 hk)
end Go.Proofs.Ytlpknbneilgjkaa.M
end
section
namespace Go.Proofs.Ytlpknbneilgjkaa.M
open Go.RowKit
set_option linter.unusedVariables false
def wordN (ws : List Int) (n : Int) : Int := if ws.length = 0 then 0 else ws.getD (n.tmod ws.length).toNat 0
def pickN (r : Rng) (n : Int) : Int := if n.tmod 4 = 0 then r.lo else if n.tmod 4 = 1 then r.hi else r.lo + (n.tdiv 4).tmod (r.hi - r.lo + 1)
def pickRow (b : BankD) (ws : List Int) (i n : Nat) : List Int := (List.range n).map fun s => pickN ((b.days.getD i default).prices.getD s default) (wordN ws (5 * i + s + 1))
def pickPs (b : BankD) (ws : List Int) (n : Nat) : List (List Int) := (List.range n).map fun i => pickRow b ws i b.stocks.toNat
def pickRs (b : BankD) (ws : List Int) (n : Nat) : List Int := (List.range n).map fun i => pickN (b.days.getD i default).rate (wordN ws (5 * i))
def pickedD (b : BankD) (ws : List Int) : TruthD := ⟨pickPs b ws b.days.length, pickRs b ws b.days.length⟩
def Words (ws : List Int) : Prop := ∀ x ∈ ws, 0 ≤ x ∧ x ≤ 65535
theorem range_getD {α : Type} {f : Nat → α} {d : α} {n k : Nat} (h : k < n) : ((List.range n).map f).getD k d = f k := by simp [List.getD_eq_getElem?_getD, h]
theorem word_in {ws : List Int} (h : Words ws) (n : Int) (hn : 0 ≤ n) : 0 ≤ wordN ws n ∧ wordN ws n ≤ 65535 := by
  unfold wordN
  split
  · omega
  · rename_i h0
    have hlt : (n.tmod ws.length).toNat < ws.length := by
      have := Int.tmod_lt_of_pos n (show (0 : Int) < ws.length by omega)
      omega
    refine h _ ?_
    rw [List.getD_eq_getElem?_getD, List.getElem?_eq_getElem hlt]
    exact List.getElem_mem hlt
theorem pick_in {r : Rng} {n : Int} (h0 : r.lo ≤ r.hi) (hn : 0 ≤ n) : r.lo ≤ pickN r n ∧ pickN r n ≤ r.hi := by
  unfold pickN
  split
  · omega
  · split
    · omega
    · have h1 : 0 ≤ n.tdiv 4 := Int.tdiv_nonneg hn (by decide)
      have h2 := Int.tmod_lt_of_pos (n.tdiv 4) (show (0 : Int) < r.hi - r.lo + 1 by omega)
      have h3 := Int.tmod_nonneg (a := n.tdiv 4) (r.hi - r.lo + 1) h1
      omega
theorem picked_len {b : BankD} {ws : List Int} : (pickedD b ws).prices.length = b.days.length ∧ (pickedD b ws).rates.length = b.days.length := by simp [pickedD, pickPs, pickRs]
theorem picked_row {b : BankD} {ws : List Int} {i : Nat} (hi : i < b.days.length) : (pickedD b ws).prices.getD i [] = pickRow b ws i b.stocks.toNat := range_getD hi
theorem picked_rate {b : BankD} {ws : List Int} {i : Nat} (hi : i < b.days.length) : (pickedD b ws).rates.getD i 0 = pickN (b.days.getD i default).rate (wordN ws (5 * i)) := range_getD hi
theorem picked_truth {b : BankD} {ws : List Int} (hv : Valid b) (hw : Words ws) : truthB b (pickedD b ws) = true := by
  simp only [truthB, Bool.and_eq_true, decide_eq_true_eq]
  refine ⟨⟨picked_len.1, picked_len.2⟩, rangeAll_true fun i hi => ?_⟩
  have hst := hv.st
  have hpl := hv.plen i hi
  simp only [dayOkB, Bool.and_eq_true, decide_eq_true_eq, inB]
  rw [picked_row hi, picked_rate hi]
  refine ⟨⟨?_, ?_⟩, ?_⟩
  · simp [pickRow]; omega
  · exact pick_in (hv.rate i hi).2.1 (word_in hw _ (by omega)).1
  · refine rangeAll_true fun k hk => ?_
    have e : (pickRow b ws i b.stocks.toNat).getD k 0 = pickN ((b.days.getD i default).prices.getD k default) (wordN ws (5 * i + k + 1)) := range_getD (by omega)
    rw [e]
    simp only [inB, decide_eq_true_eq]
    exact pick_in (hv.price i hi k hk).2.1 (word_in hw _ (by omega)).1
end Go.Proofs.Ytlpknbneilgjkaa.M
end
