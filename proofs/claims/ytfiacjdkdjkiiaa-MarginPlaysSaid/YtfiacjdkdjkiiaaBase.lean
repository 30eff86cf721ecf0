/- What a bank, a truth and lists are as plain data, and when a value in memory stands for such data; that this stays so while nothing that was there is written. No program in sight. -/
import Derived.WalkKit
import Derived.WalkSpells
import Derived.Lib.Hide
import Derived.Deep.QuietTactic
import Derived.BigQuiet
namespace Go.Proofs.Ytfiacjdkdjkiiaa
open Go.RowKit
set_option linter.unusedVariables false

structure Rng where
  lo : Int
  hi : Int
  deriving Inhabited, DecidableEq

structure DayD where
  prices : List Rng
  rate : Rng
  deriving Inhabited, DecidableEq

structure LoanD where
  money : Int
  margin : Int
  shares : List Int
  deriving Inhabited, DecidableEq

structure BankD where
  stocks : Int
  days : List DayD
  loans : List LoanD
  deriving Inhabited, DecidableEq

structure TruthD where
  prices : List (List Int)
  rates : List Int
  deriving Inhabited, DecidableEq

/-- cells of a slice of integers -/
def IntsAt (w : World) (a : Option Addr) (xs : List Int) : Prop :=
  ∀ k, k < xs.length → ∃ b off, a = some ⟨b, off, none⟩ ∧ w.cell? ⟨b, off + k, none⟩ = some (.int .i64 (xs.getD k 0))

def RngsAt (w : World) (a : Option Addr) (rs : List Rng) : Prop :=
  ∀ k, k < rs.length → ∃ b off, a = some ⟨b, off, none⟩ ∧ w.cell? ⟨b, off + k * 2, none⟩ = some (.int .i64 (rs.getD k default).lo) ∧
    w.cell? ⟨b, off + k * 2 + 1, none⟩ = some (.int .i64 (rs.getD k default).hi)

def RowsAt (w : World) (a : Option Addr) (xs : List (List Int)) : Prop :=
  ∀ k, k < xs.length → ∃ b off pa pc, a = some ⟨b, off, none⟩ ∧ w.cell? ⟨b, off + k, none⟩ = some (.slice pa (xs.getD k []).length pc) ∧ IntsAt w pa (xs.getD k [])

def DaysAt (w : World) (a : Option Addr) (ds : List DayD) : Prop :=
  ∀ k, k < ds.length → ∃ b off pa pc, a = some ⟨b, off, none⟩ ∧ w.cell? ⟨b, off + k * 3, none⟩ = some (.slice pa (ds.getD k default).prices.length pc) ∧
    w.cell? ⟨b, off + k * 3 + 1, none⟩ = some (.int .i64 (ds.getD k default).rate.lo) ∧ w.cell? ⟨b, off + k * 3 + 2, none⟩ = some (.int .i64 (ds.getD k default).rate.hi) ∧
    RngsAt w pa (ds.getD k default).prices

def LoansAt (w : World) (a : Option Addr) (ls : List LoanD) : Prop :=
  ∀ k, k < ls.length → ∃ b off pa pc, a = some ⟨b, off, none⟩ ∧ w.cell? ⟨b, off + k * 3, none⟩ = some (.int .i64 (ls.getD k default).money) ∧
    w.cell? ⟨b, off + k * 3 + 1, none⟩ = some (.int .i64 (ls.getD k default).margin) ∧ w.cell? ⟨b, off + k * 3 + 2, none⟩ = some (.slice pa (ls.getD k default).shares.length pc) ∧
    IntsAt w pa (ls.getD k default).shares

theorem cell_below {w w' : World} {p : Addr} {v : Value} (hb : Below w.heap.size w w') (h : w.cell? p = some v) : w'.cell? p = some v :=
  (hb.cell (World.block_lt_of_cell? _ _ h)).trans h

theorem IntsAt.below {w w' : World} {a : Option Addr} {xs : List Int} (h : IntsAt w a xs) (hb : Below w.heap.size w w') : IntsAt w' a xs := fun k hk => by
  obtain ⟨b, off, e, c⟩ := h k hk
  exact ⟨b, off, e, cell_below hb c⟩
theorem RngsAt.below {w w' : World} {a : Option Addr} {xs : List Rng} (h : RngsAt w a xs) (hb : Below w.heap.size w w') : RngsAt w' a xs := fun k hk => by
  obtain ⟨b, off, e, c, d⟩ := h k hk
  exact ⟨b, off, e, cell_below hb c, cell_below hb d⟩
theorem RowsAt.below {w w' : World} {a : Option Addr} {xs : List (List Int)} (h : RowsAt w a xs) (hb : Below w.heap.size w w') : RowsAt w' a xs := fun k hk => by
  obtain ⟨b, off, pa, pc, e, c, d⟩ := h k hk
  exact ⟨b, off, pa, pc, e, cell_below hb c, d.below hb⟩
theorem DaysAt.below {w w' : World} {a : Option Addr} {xs : List DayD} (h : DaysAt w a xs) (hb : Below w.heap.size w w') : DaysAt w' a xs := fun k hk => by
  obtain ⟨b, off, pa, pc, e, c1, c2, c3, d⟩ := h k hk
  exact ⟨b, off, pa, pc, e, cell_below hb c1, cell_below hb c2, cell_below hb c3, d.below hb⟩
theorem LoansAt.below {w w' : World} {a : Option Addr} {xs : List LoanD} (h : LoansAt w a xs) (hb : Below w.heap.size w w') : LoansAt w' a xs := fun k hk => by
  obtain ⟨b, off, pa, pc, e, c1, c2, c3, d⟩ := h k hk
  exact ⟨b, off, pa, pc, e, cell_below hb c1, cell_below hb c2, cell_below hb c3, d.below hb⟩

/-- a bank's value: its three cells, and what they lead to -/
def BankAt (w : World) (da la : Option Addr) (b : BankD) : Prop := DaysAt w da b.days ∧ LoansAt w la b.loans
def TruthAt (w : World) (pa ra : Option Addr) (t : TruthD) : Prop := RowsAt w pa t.prices ∧ IntsAt w ra t.rates
theorem BankAt.below {w w' : World} {da la : Option Addr} {b : BankD} (h : BankAt w da la b) (hb : Below w.heap.size w w') : BankAt w' da la b := ⟨h.1.below hb, h.2.below hb⟩
theorem TruthAt.below {w w' : World} {da la : Option Addr} {b : TruthD} (h : TruthAt w da la b) (hb : Below w.heap.size w w') : TruthAt w' da la b := ⟨h.1.below hb, h.2.below hb⟩

theorem below_drewN' {B : Nat} {a w : World} (h : Below B a w) (n : Nat) : Below B a (w.drewN n) := ⟨h.os, h.tape, h.output, h.size, h.block⟩

/-! ### what is valid -/
def inB (n lo hi : Int) : Bool := decide (lo ≤ n ∧ n ≤ hi)
def rngB (r : Rng) (m : Int) : Bool := inB r.lo 0 r.hi && decide (r.hi ≤ m)
def dayB (s : Int) (d : DayD) : Bool := decide ((d.prices.length : Int) = s) && rngB d.rate 100 && d.prices.all (rngB · 1000)
def loanB (s : Int) (l : LoanD) : Bool := inB l.money 0 100000 && inB l.margin 0 100 && decide ((l.shares.length : Int) = s) && l.shares.all (inB · 0 100)
def greatB (b : BankD) : Bool := decide (4 < b.stocks) || decide (4 < b.days.length) || decide (4 < b.loans.length)
def bankB (b : BankD) : Bool := decide (1 ≤ b.stocks) && !b.days.isEmpty && b.days.all (dayB b.stocks) && b.loans.all (loanB b.stocks)
def faultN (b : BankD) : Int := if greatB b then 3 else if bankB b then 0 else 1

theorem all_getD {α : Type} {d : α} {l : List α} {p : α → Bool} : l.all p = true ↔ ∀ k, k < l.length → p (l.getD k d) = true := by
  rw [List.all_eq_true]
  constructor
  · intro h k hk
    rw [List.getD_eq_getElem?_getD, List.getElem?_eq_getElem hk]
    exact h _ (List.getElem_mem hk)
  · intro h x hx
    obtain ⟨k, hk, rfl⟩ := List.getElem_of_mem hx
    have := h k hk
    rw [List.getD_eq_getElem?_getD, List.getElem?_eq_getElem hk] at this
    exact this
theorem all_false_getD {α : Type} {d : α} {l : List α} {p : α → Bool} (k : Nat) (hk : k < l.length) (h : p (l.getD k d) = false) : l.all p = false := by
  cases e : l.all p
  · rfl
  · rw [(all_getD (d := d)).1 e k hk] at h; cases h

theorem fault_3 {b : BankD} (h : greatB b = true) : faultN b = 3 := by simp [faultN, h]
theorem fault_1 {b : BankD} (h : greatB b = false) (h' : bankB b = false) : faultN b = 1 := by simp [faultN, h, h']
theorem fault_0 {b : BankD} (h : greatB b = false) (h' : bankB b = true) : faultN b = 0 := by simp [faultN, h, h']
theorem fault_day {b : BankD} (h : greatB b = false) (k : Nat) (hk : k < b.days.length) (hd : dayB b.stocks (b.days.getD k default) = false) : faultN b = 1 :=
  fault_1 h (by simp [bankB, all_false_getD k hk hd])
theorem fault_loan {b : BankD} (h : greatB b = false) (k : Nat) (hk : k < b.loans.length) (hd : loanB b.stocks (b.loans.getD k default) = false) : faultN b = 1 :=
  fault_1 h (by simp [bankB, all_false_getD k hk hd])
theorem dayB_len {s : Int} {d : DayD} (h : ¬ (d.prices.length : Int) = s) : dayB s d = false := by simp [dayB, h]
theorem dayB_rate {s : Int} {d : DayD} (h : inB d.rate.lo 0 d.rate.hi = false) : dayB s d = false := by simp [dayB, rngB, h]
theorem dayB_hi {s : Int} {d : DayD} (h : 100 < d.rate.hi) : dayB s d = false := by
  have : decide (d.rate.hi ≤ 100) = false := by simp; omega
  simp [dayB, rngB, this]
theorem rngB_in {r : Rng} {m : Int} (h : inB r.lo 0 r.hi = false) : rngB r m = false := by simp [rngB, h]
theorem rngB_hi {r : Rng} {m : Int} (h : m < r.hi) : rngB r m = false := by
  have : decide (r.hi ≤ m) = false := by simp; omega
  simp [rngB, this]
theorem rngB_ok {r : Rng} {m : Int} (h : inB r.lo 0 r.hi = true) (h' : ¬ m < r.hi) : rngB r m = true := by
  have : decide (r.hi ≤ m) = true := by simp; omega
  simp [rngB, this, h]
theorem dayB_price {s : Int} {d : DayD} (k : Nat) (hk : k < d.prices.length) (h : rngB (d.prices.getD k default) 1000 = false) : dayB s d = false := by
  have h6 := all_false_getD (p := (rngB · 1000)) (d := default) k hk h
  simp only [dayB, h6, Bool.and_false]
theorem dayB_ok {s : Int} {d : DayD} (h1 : (d.prices.length : Int) = s) (h2 : inB d.rate.lo 0 d.rate.hi = true) (h3 : ¬ 100 < d.rate.hi) (h4 : ∀ k, k < d.prices.length → rngB (d.prices.getD k default) 1000 = true) : dayB s d = true := by
  have h5 := rngB_ok h2 h3
  have h6 := (all_getD (d := default) (l := d.prices) (p := (rngB · 1000))).2 h4
  simp only [dayB, h5, h6, h1, decide_true, Bool.and_self]
theorem loanB_money {s : Int} {l : LoanD} (h : inB l.money 0 100000 = false) : loanB s l = false := by simp [loanB, h]
theorem loanB_margin {s : Int} {l : LoanD} (h : inB l.margin 0 100 = false) : loanB s l = false := by simp [loanB, h]
theorem loanB_len {s : Int} {l : LoanD} (h : ¬ (l.shares.length : Int) = s) : loanB s l = false := by simp [loanB, h]
theorem loanB_share {s : Int} {l : LoanD} (k : Nat) (hk : k < l.shares.length) (h : inB (l.shares.getD k 0) 0 100 = false) : loanB s l = false := by
  have h6 := all_false_getD (p := (inB · 0 100)) (d := 0) k hk h
  simp only [loanB, h6, Bool.and_false]
theorem loanB_ok {s : Int} {l : LoanD} (h1 : inB l.money 0 100000 = true) (h2 : inB l.margin 0 100 = true) (h3 : (l.shares.length : Int) = s) (h4 : ∀ k, k < l.shares.length → inB (l.shares.getD k 0) 0 100 = true) : loanB s l = true := by
  have h6 := (all_getD (d := 0) (l := l.shares) (p := (inB · 0 100))).2 h4
  simp only [loanB, h1, h2, h6, h3, decide_true, Bool.and_self]
theorem bankB_ok {b : BankD} (h1 : 1 ≤ b.stocks) (h2 : 1 ≤ b.days.length) (h3 : ∀ k, k < b.days.length → dayB b.stocks (b.days.getD k default) = true) (h4 : ∀ k, k < b.loans.length → loanB b.stocks (b.loans.getD k default) = true) : bankB b = true := by
  have h5 := (all_getD (d := default)).2 h3
  have h6 := (all_getD (d := default)).2 h4
  have h7 : b.days.isEmpty = false := by cases e : b.days with
    | nil => rw [e] at h2; simp at h2
    | cons x l => rfl
  simp [bankB, h5, h6, h7, h1]
end Go.Proofs.Ytfiacjdkdjkiiaa
