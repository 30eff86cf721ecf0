/- Walk over CheckBank. -/
import Derived.Test.YtfiacjdkdjkiiaaW6
namespace Go.Proofs.Ytfiacjdkdjkiiaa
open Go.RowKit
set_option linter.unusedVariables false

/-- the lists inside a bank are short -/
def Short (b : BankD) : Prop := (∀ k, k < b.days.length → (b.days.getD k default).prices.length ≤ 1000) ∧ (∀ k, k < b.loans.length → (b.loans.getD k default).shares.length ≤ 1000) ∧ b.days.length ≤ 1000 ∧ b.loans.length ≤ 1000

set_option maxRecDepth 100000 in
set_option maxHeartbeats 1000000 in
theorem check_any (da la : Option Addr) (dc lc : Nat) (b : BankD) (w : World) (hB : BankAt w da la b) (hS : Short b) :
    Calls Try.prog 23 #[.agg #[.int .i64 b.stocks, .slice da b.days.length dc, .slice la b.loans.length lc]] w fun e w' => e = .returned (.int .i64 (faultN b)) ∧ Below w.heap.size w w' := by
  have HBB := Lib.hid (hB.below ((Below.refl _ _).alloc (Nat.le_refl _) (.cells #[.int .i64 b.stocks, .slice da b.days.length dc, .slice la b.loans.length lc] 38)))
  have HS := Lib.hid hS
  obtain ⟨_, _, hdl, hll⟩ := hS
  clear hB
  have hbox : Below w.heap.size w (w.alloc (.cells #[.int .i64 b.stocks, .slice da b.days.length dc, .slice la b.loans.length lc] 38)) := (Below.refl _ _).alloc (Nat.le_refl _) _
  have HBX := Lib.hid hbox
  clear hbox
  by_cases h1 : 4 < b.stocks
  · have HF : Hid (faultN b = 3) := fault_3 (by simp [greatB]; omega)
    go_enter Try.func23, Try.ntmps23
    go_wp2
    go_region
    go_wp2
    go_ret
    exact ⟨ret_int HF.out.symm, HBX.out.drew⟩
  by_cases h2 : 4 < b.days.length
  · have HF : Hid (faultN b = 3) := fault_3 (by simp [greatB]; omega)
    go_enter Try.func23, Try.ntmps23
    go_wp2
    go_region
    go_wp2
    go_ret
    exact ⟨ret_int HF.out.symm, HBX.out.drew⟩
  by_cases h3 : 4 < b.loans.length
  · have HF : Hid (faultN b = 3) := fault_3 (by simp [greatB]; omega)
    go_enter Try.func23, Try.ntmps23
    go_wp2
    go_region
    go_wp2
    go_ret
    exact ⟨ret_int HF.out.symm, HBX.out.drew⟩
  have hG : Hid (greatB b = false) := by
    show greatB b = false
    simp [greatB]; omega
  by_cases h4 : b.stocks < 1
  · have HF : Hid (faultN b = 1) := fault_1 hG.out (by simp [bankB]; omega)
    go_enter Try.func23, Try.ntmps23
    go_wp2
    go_region
    go_wp2
    go_ret
    exact ⟨ret_int HF.out.symm, HBX.out.drew⟩
  by_cases h5 : b.days.length = 0
  · have HF : Hid (faultN b = 1) := fault_1 hG.out (by have := List.length_eq_zero_iff.1 h5; simp [bankB, this])
    have h5' : ((b.days.length : Int) == 0) = true := by simp; exact List.length_eq_zero_iff.1 h5
    clear h5
    go_enter Try.func23, Try.ntmps23
    go_wp2
    go_region
    go_wp2
    go_ret
    exact ⟨ret_int HF.out.symm, HBX.out.drew⟩
  have h5' : ((b.days.length : Int) == 0) = false := by simp; intro e; exact h5 (by simp [e])
  have H5 := Lib.hid h5
  clear h5
  cases g1 : b.days.all (dayB b.stocks)
  case false =>
    have HF : Hid (faultN b = 1) := fault_1 hG.out (by simp [bankB, g1])
    have G1 := Lib.hid g1
    clear g1
    go_enter Try.func23, Try.ntmps23
    go_wp2
    go_region
    go_wp2_with fail
    refine (allD_any _ _ _ _ _ _ _ _ _ _ _ HS.out.2.2.1 (HBB.out.1.below (Below.refl _ _).drew) HS.out.1).mono ?_
    rintro e w' ⟨rfl, hb⟩
    rw [G1.out]
    have HB := Lib.hid hb
    clear hb
    go_wp2
    go_ret
    exact ⟨ret_int HF.out.symm, HBX.out.drew.trans (HB.out.mono (by simp))⟩
  have G1 := Lib.hid g1
  clear g1
  have HF : Hid (faultN b = if b.loans.all (loanB b.stocks) then 0 else 1) := by
    show faultN b = if b.loans.all (loanB b.stocks) then 0 else 1
    have e : b.days.isEmpty = false := by
      cases e : b.days with
      | nil => exact absurd (by rw [e]; rfl) H5.out
      | cons => rfl
    have e2 : decide (1 ≤ b.stocks) = true := by simp; omega
    simp only [faultN, hG.out, bankB, G1.out, e, e2, Bool.not_false, Bool.and_self, Bool.true_and, Bool.false_eq_true, if_false]
  cases g2 : b.loans.all (loanB b.stocks)
  all_goals
    rw [g2] at HF
    have G2 := Lib.hid g2
    clear g2
    go_enter Try.func23, Try.ntmps23
    go_wp2
    go_region
    go_wp2_with fail
    refine (allD_any _ _ _ _ _ _ _ _ _ _ _ HS.out.2.2.1 (HBB.out.1.below (Below.refl _ _).drew) HS.out.1).mono ?_
    rintro e w' ⟨rfl, hb⟩
    rw [G1.out]
    have HB := Lib.hid hb
    have hz : w.heap.size + 1 ≤ w'.heap.size := by have := hb.size; simpa using this
    obtain ⟨hc, hf⟩ := bcell hb
    clear hb
    go_wp2_with fail
    refine (allL_any _ _ _ _ _ _ _ _ _ _ _ HS.out.2.2.2 ((HBB.out.2.below (Below.refl _ _).drew).below HB.out) HS.out.2.1).mono ?_
    rintro e w'' ⟨rfl, hb⟩
    rw [G2.out]
    have HB2 := Lib.hid hb
    clear hb
    go_wp2
    go_ret
    exact ⟨ret_int HF.out.symm, (HBX.out.drew.trans (HB.out.mono (by simp))).trans (HB2.out.mono (by omega))⟩
end Go.Proofs.Ytfiacjdkdjkiiaa
