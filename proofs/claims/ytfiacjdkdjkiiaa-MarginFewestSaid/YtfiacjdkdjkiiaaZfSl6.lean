/- The law MarginSells: its walk. -/
import Derived.Test.YtfiacjdkdjkiiaaZfSl4
import Derived.Test.YtfiacjdkdjkiiaaGMa
import Derived.Test.YtfiacjdkdjkiiaaMc
import Derived.Test.YtfiacjdkdjkiiaaGRd
import Derived.Test.YtfiacjdkdjkiiaaTy
import Derived.Test.YtfiacjdkdjkiiaaTz
namespace Go.Proofs.Ytfiacjdkdjkiiaa
open Go Go.RowKit Go.Tl
set_option linter.unusedVariables false
set_option linter.unusedSimpArgs false
set_option maxRecDepth 100000
set_option maxHeartbeats 4000000
attribute [local irreducible] AWP AWL AOp PV LV AWT AWE
abbrev truthB0 (g : Nat) (t : TruthD) : Ent := .cl g 29 [.t (rowsT false t.prices), .t (intsT false t.rates)]
abbrev bankB0 (g : Nat) (b : BankD) : Ent := .cl g 25 [intA b.stocks, .t (daysT false b.days), .t (loansT false b.loans)]
/-- what Sell returned, taken apart -/
def SellX (b : BankD) (t : TruthD) (loan day : Int) (x : AV) (e : Int) : Prop :=
  (saleE b t loan day ≠ 0 ∧ x = noneA ∧ e = saleE b t loan day) ∨ (saleE b t loan day = 0 ∧
    ((∃ sold, SellR (b.loans.getD loan.toNat default).shares (t.prices.getD day.toNat []) (resS b t loan day) sold ∧ x = .t (intsT true sold) ∧ e = 0) ∨
      (NoSell (b.loans.getD loan.toNat default).shares (t.prices.getD day.toNat []) (resS b t loan day) ∧ x = noneA ∧ e = 10)))
theorem sell_q (cp : Bool) (b : BankD) (t : TruthD) (loan day : Int) (hS : Short b) (h1 : t.prices.length ≤ 1000) (h2 : t.rates.length ≤ 1000) (h3 : ∀ k, k < t.prices.length → (t.prices.getD k []).length ≤ 1000) :
    PCall Try.prog 47 [bankA cp b, truthA t, intA loan, intA day] (fun r => ∃ x e, r = .tup [x, intA e] ∧ SellX b t loan day x e) :=
  (sell_p cp b t loan day hS h1 h2 h3).mono fun r h => by
    rcases h with ⟨he, rfl⟩ | ⟨he, ⟨sold, hR, rfl⟩ | ⟨hN, rfl⟩⟩
    · exact ⟨_, _, rfl, .inl ⟨he, rfl, rfl⟩⟩
    · exact ⟨_, _, rfl, .inr ⟨he, .inl ⟨sold, hR, rfl, rfl⟩⟩⟩
    · exact ⟨_, _, rfl, .inr ⟨he, .inr ⟨hN, rfl, rfl⟩⟩⟩
section
variable {b : BankD} {t : TruthD} {loan day most : Int} {l : List Int} {g6 g7 : Nat}
end
abbrev loanB0 (g : Nat) (mo ma : Int) (sh : List Int) : Ent := .cl g 80 [intA mo, intA ma, .t (intsT false sh)]
end Go.Proofs.Ytfiacjdkdjkiiaa
