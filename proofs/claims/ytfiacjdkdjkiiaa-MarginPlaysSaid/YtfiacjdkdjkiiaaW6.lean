/- Walks over all[Day] with Bank.day, all[Loan] with Bank.loan. -/
import Derived.Test.YtfiacjdkdjkiiaaW5
namespace Go.Proofs.Ytfiacjdkdjkiiaa
open Go.RowKit
set_option linter.unusedVariables false

theorem allD_cl (st : Int) (da la : Option Addr) (dl dc ll lc : Nat) (x : DayD) (pa : Option Addr) (pc : Nat) (fb : Nat) (w : World) (hf : w.cell? ⟨fb, 0, none⟩ = some (.func (.func 59) #[.agg #[.int .i64 st, .slice da dl dc, .slice la ll lc]] #[])) (he : RngsAt w pa x.prices) (hel : x.prices.length ≤ 1000) :
    Calls Try.prog 89 #[.agg #[.slice pa x.prices.length pc, .int .i64 x.rate.lo, .int .i64 x.rate.hi], .pointer (some ⟨fb, 0, none⟩)] w fun e w' => e = .returned (.bool (!dayB st x)) ∧ Below w.heap.size w w' := by
  have hlt : fb < w.heap.size := World.block_lt_of_cell? _ _ hf
  have HE := Lib.hid he; have HEL := Lib.hid hel
  clear he
  go_enter Try.func89, Try.ntmps89
  go_wp2_with fail
  refine (day_any st da la _ dl dc ll lc _ _ _ HEL.out (HE.out.below ((Below.refl _ _).alloc (Nat.le_refl _) _))).mono ?_
  rintro e w' ⟨rfl, hb⟩
  have HB := Lib.hid hb
  clear hb
  go_wp2
  go_ret
  exact ⟨rfl, ((Below.refl _ _).alloc (Nat.le_refl _) _).trans (HB.out.mono (by simp))⟩

set_option maxHeartbeats 400000 in
theorem indexD_any (st : Int) (da la : Option Addr) (dl dc ll lc : Nat) (a : Option Addr) (cap fb : Nat) (rs : List DayD) (w : World) (hl : rs.length ≤ 1000) (hR : DaysAt w a rs) (hf : w.cell? ⟨fb, 0, none⟩ = some (.func (.func 59) #[.agg #[.int .i64 st, .slice da dl dc, .slice la ll lc]] #[])) (hin : ∀ k, k < rs.length → (rs.getD k default).prices.length ≤ 1000) :
    Calls Try.prog 106 #[.slice a rs.length cap, .func (.func 89) #[] #[.pointer (some ⟨fb, 0, none⟩)]] w fun e w' => e = .returned (.int .i64 (firstBad (dayB st ·) rs 0)) ∧ Below w.heap.size w w' := by
  have HR := Lib.hid hR; have HF := Lib.hid hf
  have HIN := Lib.hid hin
  clear hin
  clear hR hf
  generalize hn : rs.length = n at *
  have HN := Lib.hid hn
  clear hn
  go_enter Try.func106, Try.ntmps106
  go_wp2
  go_loopw [8] (fun i wr => ∃ k : Nat, k ≤ n ∧ i = .int .i64 k ∧ (∀ j, j < k → dayB st (rs.getD j default) = true) ∧ Below w.heap.size w wr) (fun i _ => n - (intOf i).toNat)
  case atStart => exact ⟨0, Nat.zero_le _, rfl, fun _ h => absurd h (Nat.not_lt_zero _), Below.refl _ _⟩
  case round =>
    obtain ⟨k, hk, rfl, hall, hbel⟩ := hrel
    have HA := Lib.hid hall; have HB := Lib.hid hbel
    clear hall hbel
    by_cases hlt : k < n
    · have hkn : k < rs.length := by have := HN.out; omega
      have hcf := cell_below HB.out HF.out
      have HCF := Lib.hid hcf
      obtain ⟨b, off, pa, pc, rfl, c1, c2, c3, hp⟩ := (HR.out.below HB.out) k hkn
      have HKN := Lib.hid hkn
      clear hkn hcf
      generalize hr : rs.getD k default = r at *
      have HRR := Lib.hid hr
      clear hr
      have hpl := HIN.out k hlt
      rw [HRR.out] at hpl
      have HPL := Lib.hid hpl; have HP := Lib.hid hp
      clear hpl hp
      cases g : dayB st r
      · have HG : Hid (firstBad (dayB st ·) rs 0 = (k : Int)) := by
          have := firstBad_at (d := default) (dayB st ·) rs k 0 HA.out HKN.out (by show dayB st (rs.getD k default) = false; rw [HRR.out]; exact g)
          show firstBad (dayB st ·) rs 0 = (k : Int)
          simpa using this
        have G := Lib.hid g
        clear g
        go_wp2_with fail
        refine (allD_cl st da la dl dc ll lc _ _ _ _ _ HCF.out HP.out HPL.out).mono ?_
        rintro e w' ⟨rfl, hb⟩
        rw [G.out]
        have HB2 := Lib.hid hb
        clear hb
        go_wp2
        go_ret
        exact ⟨ret_int HG.out.symm, HB.out.trans (HB2.out.mono HB.out.size)⟩
      · have G := Lib.hid g
        clear g
        go_wp2_with fail
        refine (allD_cl st da la dl dc ll lc _ _ _ _ _ HCF.out HP.out HPL.out).mono ?_
        rintro e w' ⟨rfl, hb⟩
        rw [G.out]
        have HB2 := Lib.hid hb
        clear hb
        go_wp2
        go_roundw
        case rel =>
          refine ⟨k + 1, by omega, by go_num, fun j hj => ?_, HB.out.trans (HB2.out.mono HB.out.size)⟩
          by_cases hjs : j < k
          · exact HA.out j hjs
          · have : j = k := by omega
            have h5 := G.out
            rw [← HRR.out] at h5
            rw [this]; exact h5
        case measure => simp [intOf]; omega
    · have HG : Hid (firstBad (dayB st ·) rs 0 = -1) := firstBad_none (d := default) (dayB st ·) rs k 0 HA.out (by have := HN.out; omega)
      go_wp2
      go_ret
      exact ⟨ret_int HG.out.symm, HB.out⟩

theorem allD_any (st : Int) (da la : Option Addr) (dl dc ll lc : Nat) (a : Option Addr) (cap : Nat) (rs : List DayD) (w : World) (hl : rs.length ≤ 1000) (hR : DaysAt w a rs) (hin : ∀ k, k < rs.length → (rs.getD k default).prices.length ≤ 1000) :
    Calls Try.prog 61 #[.slice a rs.length cap, .func (.func 59) #[.agg #[.int .i64 st, .slice da dl dc, .slice la ll lc]] #[]] w fun e w' => e = .returned (.bool (rs.all (dayB st ·))) ∧ Below w.heap.size w w' := by
  have HR := Lib.hid hR
  have HIN := Lib.hid hin
  clear hin
  clear hR
  have HL := Lib.hid hl
  go_enter Try.func61, Try.ntmps61
  go_wp2_with (first | (go_at_call 88; go_in) | fail)
  refine (indexD_any st da la dl dc ll lc _ _ _ _ _ HL.out (HR.out.below ((Below.refl _ _).alloc (Nat.le_refl _) _)) (by simp [go_sem]) HIN.out).mono ?_
  rintro e w' ⟨rfl, hb⟩
  have HB := Lib.hid hb
  clear hb
  go_wp2
  go_ret
  exact ⟨ret_bool (firstBad_ge _ _ _), ((Below.refl _ _).alloc (Nat.le_refl _) _).trans (HB.out.mono (by simp))⟩

theorem allL_cl (st : Int) (da la : Option Addr) (dl dc ll lc : Nat) (x : LoanD) (pa : Option Addr) (pc : Nat) (fb : Nat) (w : World) (hf : w.cell? ⟨fb, 0, none⟩ = some (.func (.func 60) #[.agg #[.int .i64 st, .slice da dl dc, .slice la ll lc]] #[])) (he : IntsAt w pa x.shares) (hel : x.shares.length ≤ 1000) :
    Calls Try.prog 91 #[.agg #[.int .i64 x.money, .int .i64 x.margin, .slice pa x.shares.length pc], .pointer (some ⟨fb, 0, none⟩)] w fun e w' => e = .returned (.bool (!loanB st x)) ∧ Below w.heap.size w w' := by
  have hlt : fb < w.heap.size := World.block_lt_of_cell? _ _ hf
  have HE := Lib.hid he; have HEL := Lib.hid hel
  clear he
  go_enter Try.func91, Try.ntmps91
  go_wp2_with fail
  refine (loan_any st da la _ dl dc ll lc _ _ _ HEL.out (HE.out.below ((Below.refl _ _).alloc (Nat.le_refl _) _))).mono ?_
  rintro e w' ⟨rfl, hb⟩
  have HB := Lib.hid hb
  clear hb
  go_wp2
  go_ret
  exact ⟨rfl, ((Below.refl _ _).alloc (Nat.le_refl _) _).trans (HB.out.mono (by simp))⟩

set_option maxHeartbeats 400000 in
theorem indexL_any (st : Int) (da la : Option Addr) (dl dc ll lc : Nat) (a : Option Addr) (cap fb : Nat) (rs : List LoanD) (w : World) (hl : rs.length ≤ 1000) (hR : LoansAt w a rs) (hf : w.cell? ⟨fb, 0, none⟩ = some (.func (.func 60) #[.agg #[.int .i64 st, .slice da dl dc, .slice la ll lc]] #[])) (hin : ∀ k, k < rs.length → (rs.getD k default).shares.length ≤ 1000) :
    Calls Try.prog 107 #[.slice a rs.length cap, .func (.func 91) #[] #[.pointer (some ⟨fb, 0, none⟩)]] w fun e w' => e = .returned (.int .i64 (firstBad (loanB st ·) rs 0)) ∧ Below w.heap.size w w' := by
  have HR := Lib.hid hR; have HF := Lib.hid hf
  have HIN := Lib.hid hin
  clear hin
  clear hR hf
  generalize hn : rs.length = n at *
  have HN := Lib.hid hn
  clear hn
  go_enter Try.func107, Try.ntmps107
  go_wp2
  go_loopw [8] (fun i wr => ∃ k : Nat, k ≤ n ∧ i = .int .i64 k ∧ (∀ j, j < k → loanB st (rs.getD j default) = true) ∧ Below w.heap.size w wr) (fun i _ => n - (intOf i).toNat)
  case atStart => exact ⟨0, Nat.zero_le _, rfl, fun _ h => absurd h (Nat.not_lt_zero _), Below.refl _ _⟩
  case round =>
    obtain ⟨k, hk, rfl, hall, hbel⟩ := hrel
    have HA := Lib.hid hall; have HB := Lib.hid hbel
    clear hall hbel
    by_cases hlt : k < n
    · have hkn : k < rs.length := by have := HN.out; omega
      have hcf := cell_below HB.out HF.out
      have HCF := Lib.hid hcf
      obtain ⟨b, off, pa, pc, rfl, c1, c2, c3, hp⟩ := (HR.out.below HB.out) k hkn
      have HKN := Lib.hid hkn
      clear hkn hcf
      generalize hr : rs.getD k default = r at *
      have HRR := Lib.hid hr
      clear hr
      have hpl := HIN.out k hlt
      rw [HRR.out] at hpl
      have HPL := Lib.hid hpl; have HP := Lib.hid hp
      clear hpl hp
      cases g : loanB st r
      · have HG : Hid (firstBad (loanB st ·) rs 0 = (k : Int)) := by
          have := firstBad_at (d := default) (loanB st ·) rs k 0 HA.out HKN.out (by show loanB st (rs.getD k default) = false; rw [HRR.out]; exact g)
          show firstBad (loanB st ·) rs 0 = (k : Int)
          simpa using this
        have G := Lib.hid g
        clear g
        go_wp2_with fail
        refine (allL_cl st da la dl dc ll lc _ _ _ _ _ HCF.out HP.out HPL.out).mono ?_
        rintro e w' ⟨rfl, hb⟩
        rw [G.out]
        have HB2 := Lib.hid hb
        clear hb
        go_wp2
        go_ret
        exact ⟨ret_int HG.out.symm, HB.out.trans (HB2.out.mono HB.out.size)⟩
      · have G := Lib.hid g
        clear g
        go_wp2_with fail
        refine (allL_cl st da la dl dc ll lc _ _ _ _ _ HCF.out HP.out HPL.out).mono ?_
        rintro e w' ⟨rfl, hb⟩
        rw [G.out]
        have HB2 := Lib.hid hb
        clear hb
        go_wp2
        go_roundw
        case rel =>
          refine ⟨k + 1, by omega, by go_num, fun j hj => ?_, HB.out.trans (HB2.out.mono HB.out.size)⟩
          by_cases hjs : j < k
          · exact HA.out j hjs
          · have : j = k := by omega
            have h5 := G.out
            rw [← HRR.out] at h5
            rw [this]; exact h5
        case measure => simp [intOf]; omega
    · have HG : Hid (firstBad (loanB st ·) rs 0 = -1) := firstBad_none (d := default) (loanB st ·) rs k 0 HA.out (by have := HN.out; omega)
      go_wp2
      go_ret
      exact ⟨ret_int HG.out.symm, HB.out⟩

theorem allL_any (st : Int) (da la : Option Addr) (dl dc ll lc : Nat) (a : Option Addr) (cap : Nat) (rs : List LoanD) (w : World) (hl : rs.length ≤ 1000) (hR : LoansAt w a rs) (hin : ∀ k, k < rs.length → (rs.getD k default).shares.length ≤ 1000) :
    Calls Try.prog 62 #[.slice a rs.length cap, .func (.func 60) #[.agg #[.int .i64 st, .slice da dl dc, .slice la ll lc]] #[]] w fun e w' => e = .returned (.bool (rs.all (loanB st ·))) ∧ Below w.heap.size w w' := by
  have HR := Lib.hid hR
  have HIN := Lib.hid hin
  clear hin
  clear hR
  have HL := Lib.hid hl
  go_enter Try.func62, Try.ntmps62
  go_wp2_with (first | (go_at_call 90; go_in) | fail)
  refine (indexL_any st da la dl dc ll lc _ _ _ _ _ HL.out (HR.out.below ((Below.refl _ _).alloc (Nat.le_refl _) _)) (by simp [go_sem]) HIN.out).mono ?_
  rintro e w' ⟨rfl, hb⟩
  have HB := Lib.hid hb
  clear hb
  go_wp2
  go_ret
  exact ⟨ret_bool (firstBad_ge _ _ _), ((Below.refl _ _).alloc (Nat.le_refl _) _).trans (HB.out.mono (by simp))⟩

end Go.Proofs.Ytfiacjdkdjkiiaa
