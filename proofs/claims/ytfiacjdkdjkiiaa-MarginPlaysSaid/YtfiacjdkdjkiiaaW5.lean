/- Walks over Bank.day, Bank.loan. -/
import Derived.Test.YtfiacjdkdjkiiaaW4
namespace Go.Proofs.Ytfiacjdkdjkiiaa
open Go.RowKit
set_option linter.unusedVariables false

theorem two_boxes {w : World} {o1 o2 : Obj} : Below w.heap.size w ((w.alloc o1).alloc o2) := ((Below.refl _ _).alloc (Nat.le_refl _) _).alloc (by simp) _

theorem dayB_eq (s : Int) (d : DayD) : dayB s d = (decide ((d.prices.length : Int) = s) && d.prices.all (rngB · 1000) && rngB d.rate 100) := by
  simp only [dayB, Bool.and_assoc]; rw [Bool.and_comm (rngB d.rate 100)]

set_option maxHeartbeats 400000 in
theorem day_any (st : Int) (da la pa : Option Addr) (dl dc ll lc pc : Nat) (d : DayD) (w : World) (hl : d.prices.length ≤ 1000) (hR : RngsAt w pa d.prices) :
    Calls Try.prog 59 #[.agg #[.int .i64 st, .slice da dl dc, .slice la ll lc], .agg #[.slice pa d.prices.length pc, .int .i64 d.rate.lo, .int .i64 d.rate.hi]] w fun e w' =>
      e = .returned (.bool (dayB st d)) ∧ Below w.heap.size w w' := by
  have HR := Lib.hid (hR.below (two_boxes (o1 := .cells #[.int .i64 st, .slice da dl dc, .slice la ll lc] 38) (o2 := .cells #[.slice pa d.prices.length pc, .int .i64 d.rate.lo, .int .i64 d.rate.hi] 111)))
  have HL := Lib.hid hl
  clear hR
  by_cases g1 : (d.prices.length : Int) = st
  case neg =>
    have HF : Hid (dayB st d = false) := dayB_len g1
    have g1' : ((d.prices.length : Int) == st) = false := by simpa using g1
    clear g1
    go_enter Try.func59, Try.ntmps59
    go_wp2
    go_ret
    exact ⟨ret_bool HF.out.symm, two_boxes⟩
  have g1' : ((d.prices.length : Int) == st) = true := by simpa using g1
  have G1 := Lib.hid g1
  clear g1
  cases g2 : d.prices.all (rngB · 1000)
  case false =>
    have HF : Hid (dayB st d = false) := by
      show dayB st d = false
      rw [dayB_eq, g2]; simp
    have G2 := Lib.hid g2
    clear g2
    go_enter Try.func59, Try.ntmps59
    go_wp2_with fail
    refine (allR_any _ _ _ _ HL.out HR.out).mono ?_
    rintro e w' ⟨rfl, hb⟩
    rw [G2.out]
    have HB := Lib.hid hb
    clear hb
    go_wp2
    go_ret
    exact ⟨ret_bool HF.out.symm, two_boxes.trans (HB.out.mono (by simp; omega))⟩
  have HF : Hid (rngB d.rate 100 = dayB st d) := by
    show rngB d.rate 100 = dayB st d
    rw [dayB_eq, g2, G1.out]; simp
  have G2 := Lib.hid g2
  clear g2
  go_enter Try.func59, Try.ntmps59
  go_wp2_with fail
  refine (allR_any _ _ _ _ HL.out HR.out).mono ?_
  rintro e w' ⟨rfl, hb⟩
  rw [G2.out]
  have HB := Lib.hid hb
  have hz : w.heap.size + 1 + 1 ≤ w'.heap.size := by have := hb.size; simpa using this
  obtain ⟨hc, hf⟩ := bcell hb
  clear hb
  go_wp2_with fail
  refine (rate_any _ _).mono ?_
  rintro e w'' ⟨rfl, hb⟩
  have HB2 := Lib.hid hb
  clear hb
  go_wp2
  go_ret
  exact ⟨ret_bool HF.out, (two_boxes.trans (HB.out.mono (by simp; omega))).trans (HB2.out.mono (by omega))⟩

theorem loanB_eq (s : Int) (l : LoanD) : loanB s l = (inB l.money 0 100000 && inB l.margin 0 100 && decide ((l.shares.length : Int) = s) && l.shares.all (inB · 0 100)) := rfl

set_option maxHeartbeats 400000 in
theorem loan_any (st : Int) (da la pa : Option Addr) (dl dc ll lc pc : Nat) (d : LoanD) (w : World) (hl : d.shares.length ≤ 1000) (hR : IntsAt w pa d.shares) :
    Calls Try.prog 60 #[.agg #[.int .i64 st, .slice da dl dc, .slice la ll lc], .agg #[.int .i64 d.money, .int .i64 d.margin, .slice pa d.shares.length pc]] w fun e w' =>
      e = .returned (.bool (loanB st d)) ∧ Below w.heap.size w w' := by
  have HR := Lib.hid (hR.below (two_boxes (o1 := .cells #[.int .i64 st, .slice da dl dc, .slice la ll lc] 38) (o2 := .cells #[.int .i64 d.money, .int .i64 d.margin, .slice pa d.shares.length pc] 109)))
  have HL := Lib.hid hl
  clear hR
  cases g1 : inB d.money 0 100000
  case false =>
    have HF : Hid (loanB st d = false) := loanB_money g1
    have G1 := Lib.hid g1
    clear g1
    go_enter Try.func60, Try.ntmps60
    go_wp2_with (go_at_call 69; refine (within_false _ _ _ _ G1.out).mono ?_; rintro e w' ⟨rfl, rfl⟩)
    go_ret
    exact ⟨ret_bool HF.out.symm, two_boxes⟩
  have G1 := Lib.hid g1
  clear g1
  cases g2 : inB d.margin 0 100
  case false =>
    have HF : Hid (loanB st d = false) := loanB_margin g2
    have G2 := Lib.hid g2
    clear g2
    go_enter Try.func60, Try.ntmps60
    go_wp2_with fail
    refine (within_true _ _ _ _ G1.out).mono ?_
    rintro e w' ⟨rfl, rfl⟩
    go_wp2_with fail
    refine (within_false _ _ _ _ G2.out).mono ?_
    rintro e w' ⟨rfl, rfl⟩
    go_wp2_with fail
    go_ret
    exact ⟨ret_bool HF.out.symm, two_boxes⟩
  have G2 := Lib.hid g2
  clear g2
  by_cases g3 : (d.shares.length : Int) = st
  case neg =>
    have HF : Hid (loanB st d = false) := loanB_len g3
    have g3' : ((d.shares.length : Int) == st) = false := by simpa using g3
    clear g3
    go_enter Try.func60, Try.ntmps60
    go_wp2_with fail
    refine (within_true _ _ _ _ G1.out).mono ?_
    rintro e w' ⟨rfl, rfl⟩
    go_wp2_with fail
    refine (within_true _ _ _ _ G2.out).mono ?_
    rintro e w' ⟨rfl, rfl⟩
    go_wp2_with fail
    go_ret
    exact ⟨ret_bool HF.out.symm, two_boxes⟩
  have g3' : ((d.shares.length : Int) == st) = true := by simpa using g3
  have HF : Hid (d.shares.all (inB · 0 100) = loanB st d) := by
    show d.shares.all (inB · 0 100) = loanB st d
    rw [loanB_eq, G1.out, G2.out, g3]; simp
  clear g3
  go_enter Try.func60, Try.ntmps60
  go_wp2_with fail
  refine (within_true _ _ _ _ G1.out).mono ?_
  rintro e w' ⟨rfl, rfl⟩
  go_wp2_with fail
  refine (within_true _ _ _ _ G2.out).mono ?_
  rintro e w' ⟨rfl, rfl⟩
  go_wp2_with fail
  refine (allI_any _ _ _ _ _ _ HL.out HR.out).mono ?_
  rintro e w' ⟨rfl, hb⟩
  have HB := Lib.hid hb
  clear hb
  go_wp2
  go_ret
  exact ⟨ret_bool HF.out, two_boxes.trans (HB.out.mono (by simp; omega))⟩
end Go.Proofs.Ytfiacjdkdjkiiaa
