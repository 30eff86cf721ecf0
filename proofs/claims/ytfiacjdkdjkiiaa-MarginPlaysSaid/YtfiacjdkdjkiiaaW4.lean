/- Walks over all[int] with Range.has. -/
import Derived.Test.YtfiacjdkdjkiiaaW3
namespace Go.Proofs.Ytfiacjdkdjkiiaa
open Go.RowKit
set_option linter.unusedVariables false

theorem allI_cl (lo hi : Int) (x : Int) (fb : Nat) (w : World) (hf : w.cell? ⟨fb, 0, none⟩ = some (.func (.func 72) #[.agg #[.int .i64 lo, .int .i64 hi]] #[])) :
    Calls Try.prog 99 #[.int .i64 x, .pointer (some ⟨fb, 0, none⟩)] w fun e w' => e = .returned (.bool (!inB x lo hi)) ∧ Below w.heap.size w w' := by
  have hlt : fb < w.heap.size := World.block_lt_of_cell? _ _ hf
  go_enter Try.func99, Try.ntmps99
  go_wp2_with fail
  refine (has_any lo hi _ _).mono ?_
  rintro e w' ⟨rfl, hb⟩
  have HB := Lib.hid hb
  clear hb
  go_wp2
  go_ret
  exact ⟨rfl, ((Below.refl _ _)).trans (HB.out.mono (by simp))⟩

set_option maxHeartbeats 400000 in
theorem indexI_any (lo hi : Int) (a : Option Addr) (cap fb : Nat) (rs : List Int) (w : World) (hl : rs.length ≤ 1000) (hR : IntsAt w a rs) (hf : w.cell? ⟨fb, 0, none⟩ = some (.func (.func 72) #[.agg #[.int .i64 lo, .int .i64 hi]] #[])) :
    Calls Try.prog 109 #[.slice a rs.length cap, .func (.func 99) #[] #[.pointer (some ⟨fb, 0, none⟩)]] w fun e w' => e = .returned (.int .i64 (firstBad (inB · lo hi) rs 0)) ∧ Below w.heap.size w w' := by
  have HR := Lib.hid hR; have HF := Lib.hid hf
  clear hR hf
  generalize hn : rs.length = n at *
  have HN := Lib.hid hn
  clear hn
  go_enter Try.func109, Try.ntmps109
  go_wp2
  go_loopw [8] (fun i wr => ∃ k : Nat, k ≤ n ∧ i = .int .i64 k ∧ (∀ j, j < k → inB (rs.getD j 0) lo hi = true) ∧ Below w.heap.size w wr) (fun i _ => n - (intOf i).toNat)
  case atStart => exact ⟨0, Nat.zero_le _, rfl, fun _ h => absurd h (Nat.not_lt_zero _), Below.refl _ _⟩
  case round =>
    obtain ⟨k, hk, rfl, hall, hbel⟩ := hrel
    have HA := Lib.hid hall; have HB := Lib.hid hbel
    clear hall hbel
    by_cases hlt : k < n
    · have hkn : k < rs.length := by have := HN.out; omega
      have hcf := cell_below HB.out HF.out
      have HCF := Lib.hid hcf
      obtain ⟨b, off, rfl, c1⟩ := (HR.out.below HB.out) k hkn
      have HKN := Lib.hid hkn
      clear hkn hcf
      generalize hr : rs.getD k 0 = r at *
      have HRR := Lib.hid hr
      clear hr
      cases g : inB r lo hi
      · have HG : Hid (firstBad (inB · lo hi) rs 0 = (k : Int)) := by
          have := firstBad_at (d := 0) (inB · lo hi) rs k 0 HA.out HKN.out (by show inB (rs.getD k 0) lo hi = false; rw [HRR.out]; exact g)
          show firstBad (inB · lo hi) rs 0 = (k : Int)
          simpa using this
        have G := Lib.hid g
        clear g
        go_wp2_with fail
        refine (allI_cl lo hi _ _ _ HCF.out).mono ?_
        rintro e w' ⟨rfl, hb⟩
        rw [G.out]
        have HB2 := Lib.hid hb
        clear hb
        go_wp2
        go_ret
        exact ⟨ret_int HG.out.symm, HB.out.trans (HB2.out.mono HB.out.size)⟩
      · have G := Lib.hid g
        clear g
        go_wp2_with fail
        refine (allI_cl lo hi _ _ _ HCF.out).mono ?_
        rintro e w' ⟨rfl, hb⟩
        rw [G.out]
        have HB2 := Lib.hid hb
        clear hb
        go_wp2
        go_roundw
        case rel =>
          refine ⟨k + 1, by omega, by go_num, fun j hj => ?_, HB.out.trans (HB2.out.mono HB.out.size)⟩
          by_cases hjs : j < k
          · exact HA.out j hjs
          · have : j = k := by omega
            have h5 := G.out
            rw [← HRR.out] at h5
            rw [this]; exact h5
        case measure => simp [intOf]; omega
    · have HG : Hid (firstBad (inB · lo hi) rs 0 = -1) := firstBad_none (d := 0) (inB · lo hi) rs k 0 HA.out (by have := HN.out; omega)
      go_wp2
      go_ret
      exact ⟨ret_int HG.out.symm, HB.out⟩

theorem allI_any (lo hi : Int) (a : Option Addr) (cap : Nat) (rs : List Int) (w : World) (hl : rs.length ≤ 1000) (hR : IntsAt w a rs) :
    Calls Try.prog 74 #[.slice a rs.length cap, .func (.func 72) #[.agg #[.int .i64 lo, .int .i64 hi]] #[]] w fun e w' => e = .returned (.bool (rs.all (inB · lo hi))) ∧ Below w.heap.size w w' := by
  have HR := Lib.hid hR
  clear hR
  have HL := Lib.hid hl
  go_enter Try.func74, Try.ntmps74
  go_wp2_with (first | (go_at_call 98; go_in) | fail)
  refine (indexI_any lo hi _ _ _ _ _ HL.out (HR.out.below ((Below.refl _ _).alloc (Nat.le_refl _) _)) (by simp [go_sem])).mono ?_
  rintro e w' ⟨rfl, hb⟩
  have HB := Lib.hid hb
  clear hb
  go_wp2
  go_ret
  exact ⟨ret_bool (firstBad_ge _ _ _), ((Below.refl _ _).alloc (Nat.le_refl _) _).trans (HB.out.mono (by simp))⟩

end Go.Proofs.Ytfiacjdkdjkiiaa
