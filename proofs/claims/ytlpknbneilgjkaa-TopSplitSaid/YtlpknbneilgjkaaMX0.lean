/- Banks and truths made by the law TopSplit: values, and how they stand to those that callees take. -/
import Derived.Test.YtlpknbneilgjkaaMMc
import Derived.Test.YtlpknbneilgjkaaMS
namespace Go.Proofs.Ytlpknbneilgjkaa.M
open Go Go.RowKit Go.Tl
set_option linter.unusedVariables false
set_option linter.unusedSimpArgs false
theorem acall_args {P : Program} {f : Nat} {args args' : List AV} {hc : List Ent} {Q : AV → List Ent → Prop} (C : ACall P f args' hc Q) (H : AVsLe args args') : ACall P f args hc Q := fun w S vs h1 h2 h3 => C w S vs h1 h2 (H.rels h3)
/-- a bank whose lists were made anew -/
def bankC1 (b : BankD) : List AV := [intA b.stocks, .t (.sl true 3 b.days.length (fun k => dayL1 (b.days.getD k default))), .t (.sl true 3 b.loans.length (fun k => loanL1 (b.loans.getD k default)))]
abbrev bank1 (b : BankD) : AV := .ag (bankC1 b)
theorem bank1_le (cp : Bool) (b : BankD) : AVLe (bank1 b) (bankA cp b) := by
  refine .ag (.cons (.refl _) (.cons (.t (ofn_le fun k hk => ⟨rfl, fun j x x' h1 h2 => ?_⟩)) (.cons (.t (ofn_le fun k hk => ⟨rfl, fun j x x' h1 h2 => ?_⟩)) .nil)))
  · match j with
    | 0 => simp [dayL1, dayL] at h1 h2; subst h1; subst h2; exact rngs_le _
    | 1 => simp [dayL1, dayL] at h1 h2; subst h1; subst h2; exact .refl _
    | 2 => simp [dayL1, dayL] at h1 h2; subst h1; subst h2; exact .refl _
    | j + 3 => simp [dayL1] at h1
  · match j with
    | 0 => simp [loanL1, loanL] at h1 h2; subst h1; subst h2; exact .refl _
    | 1 => simp [loanL1, loanL] at h1 h2; subst h1; subst h2; exact .refl _
    | 2 => simp [loanL1, loanL] at h1 h2; subst h1; subst h2; exact ints_le _
    | j + 3 => simp [loanL1] at h1
def lstsT (xs : List (List Int)) : Tr := .sl true 1 xs.length (fun k => [intsT true (xs.getD k [])])
def truthC1 (t : TruthD) : List AV := [.t (lstsT t.prices), .t (intsT true t.rates)]
abbrev truth1 (t : TruthD) : AV := .ag (truthC1 t)
theorem truth1_le (t : TruthD) : AVLe (truth1 t) (truthA t) := .ag (.cons (.t (ofn_le fun k hk => ⟨rfl, one_le (ints_le _)⟩)) (.cons (.t (ints_le _)) .nil))
/-- other prices of the first stock, other shares of it -/
def setP (p : Rng) (d : DayD) : DayD := ⟨d.prices.set 0 p, d.rate⟩
def setS (x : Int) (l : LoanD) : LoanD := ⟨l.money, l.margin, l.shares.set 0 x⟩
abbrev day1 (d : DayD) : AV := .ag [.t (rngsT true d.prices), intA d.rate.lo, intA d.rate.hi]
abbrev loan1 (l : LoanD) : AV := .ag [intA l.money, intA l.margin, .t (intsT true l.shares)]
theorem dayOne (ds : List DayD) : ∀ k, k < ds.length → ∀ u ∈ dayL (ds.getD k default), oneA (AV.ofTr u) = true := fun k hk u hu => by
  simp only [dayL, List.mem_cons, List.not_mem_nil, or_false] at hu
  rcases hu with rfl | rfl | rfl <;> rfl
theorem rngOne (rs : List Rng) : ∀ k, k < rs.length → ∀ u ∈ rngL (rs.getD k default), oneA (AV.ofTr u) = true := fun k hk u hu => by
  simp only [rngL, List.mem_cons, List.not_mem_nil, or_false] at hu
  rcases hu with rfl | rfl <;> rfl
theorem rngRows_range (l : List Rng) : ((List.range l.length).map fun k => (rngL (l.getD k default)).map AV.ofTr) = l.map rngRow := by
  refine List.ext_getElem (by simp) fun k h1 h2 => ?_
  simp at h1 h2
  simp [List.getD_eq_getElem?_getD, h1, AV.ofTr, rngL, rngRow]
theorem set_map {α β : Type} (f : α → β) (l : List α) (k : Nat) (x : α) : (l.map f).set k (f x) = (l.set k x).map f := by rw [List.map_set]
theorem rngs_set0 (l : List Rng) (p : Rng) (h : 1 ≤ l.length) : (l.map rngRow).set 0 (spA ((l.map rngRow).getD 0 []) 0 [intA p.lo, intA p.hi]) = (l.set 0 p).map rngRow := by
  cases l with
  | nil => simp at h
  | cons a l => simp [spA, rngRow]
theorem ints_set0 (l : List Int) (p : Int) (h : 1 ≤ l.length) : (l.map intRow).set 0 (spA ((l.map intRow).getD 0 []) 0 [intA p]) = (l.set 0 p).map intRow := by
  cases l with
  | nil => simp at h
  | cons a l => simp [spA, intRow]
end Go.Proofs.Ytlpknbneilgjkaa.M
