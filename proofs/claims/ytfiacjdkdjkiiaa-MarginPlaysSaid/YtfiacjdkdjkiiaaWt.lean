/- The walk over law.Thin. -/
import Derived.Test.YtfiacjdkdjkiiaaW5
namespace Go.Proofs.Ytfiacjdkdjkiiaa
open Go.RowKit
set_option linter.unusedVariables false

def thinB (b : BankD) (t : TruthD) : Bool := decide (b.days.length ≤ 7) && decide (b.loans.length ≤ 7) && decide (t.prices.length ≤ 7) && decide (t.rates.length ≤ 7) &&
  b.days.all (fun d => decide (d.prices.length ≤ 7)) && b.loans.all (fun d => decide (d.shares.length ≤ 7)) && t.prices.all (fun d => decide (d.length ≤ 7))
theorem le_of_not_all {α : Type} {d : α} (l : List α) (f : α → Nat) (k : Nat) (hk : k < l.length) (h : 7 < f (l.getD k d)) : l.all (fun x => decide (f x ≤ 7)) = false :=
  all_false_getD (d := d) k hk (by simp only [decide_eq_false_iff_not]; omega)

set_option maxRecDepth 100000 in
set_option maxHeartbeats 1000000 in
theorem thin_any (da la pa ra : Option Addr) (dc lc pc rc : Nat) (b : BankD) (t : TruthD) (w : World) (hB : BankAt w da la b) (hT : TruthAt w pa ra t)
    (hd1 : b.days.length ≤ 9223372036854775807) (hd2 : b.loans.length ≤ 9223372036854775807) (hd3 : t.prices.length ≤ 9223372036854775807) (hd4 : t.rates.length ≤ 9223372036854775807) :
    Calls Try.prog 17 #[.agg #[.int .i64 b.stocks, .slice da b.days.length dc, .slice la b.loans.length lc], .agg #[.slice pa t.prices.length pc, .slice ra t.rates.length rc]] w
      fun e w' => e = .returned (.bool (thinB b t)) ∧ Below w.heap.size w w' := by
  have hbox := two_boxes (w := w) (o1 := .cells #[.int .i64 b.stocks, .slice da b.days.length dc, .slice la b.loans.length lc] 25) (o2 := .cells #[.slice pa t.prices.length pc, .slice ra t.rates.length rc] 29)
  have HB := Lib.hid hbox
  have HBK := Lib.hid (hB.below hbox); have HTR := Lib.hid (hT.below hbox)
  clear hB hT hbox
  by_cases h1 : b.days.length ≤ 7
  case neg =>
    have HF : Hid (thinB b t = false) := by show thinB b t = false; simp [thinB, h1]
    generalize b.days.length = n1 at *
    go_enter Try.func17, Try.ntmps17
    go_wp2
    go_ret
    exact ⟨ret_bool HF.out.symm, HB.out⟩
  by_cases h2 : b.loans.length ≤ 7
  case neg =>
    have HF : Hid (thinB b t = false) := by show thinB b t = false; simp [thinB, h2]
    generalize b.days.length = n1 at *
    generalize b.loans.length = n2 at *
    go_enter Try.func17, Try.ntmps17
    go_wp2
    go_ret
    exact ⟨ret_bool HF.out.symm, HB.out⟩
  by_cases h3 : t.prices.length ≤ 7
  case neg =>
    have HF : Hid (thinB b t = false) := by show thinB b t = false; simp [thinB, h3]
    generalize b.days.length = n1 at *
    generalize b.loans.length = n2 at *
    generalize t.prices.length = n3 at *
    go_enter Try.func17, Try.ntmps17
    go_wp2
    go_ret
    exact ⟨ret_bool HF.out.symm, HB.out⟩
  by_cases h4 : t.rates.length ≤ 7
  case neg =>
    have HF : Hid (thinB b t = false) := by show thinB b t = false; simp [thinB, h4]
    generalize b.days.length = n1 at *
    generalize b.loans.length = n2 at *
    generalize t.prices.length = n3 at *
    generalize t.rates.length = n4 at *
    go_enter Try.func17, Try.ntmps17
    go_wp2
    go_ret
    exact ⟨ret_bool HF.out.symm, HB.out⟩
  have H1 : Hid (b.days.length ≤ 7 ∧ b.loans.length ≤ 7 ∧ t.prices.length ≤ 7 ∧ t.rates.length ≤ 7) := ⟨h1, h2, h3, h4⟩
  generalize e1 : b.days.length = n1 at *
  generalize e2 : b.loans.length = n2 at *
  generalize e3 : t.prices.length = n3 at *
  generalize e4 : t.rates.length = n4 at *
  have E1 := Lib.hid e1; have E2 := Lib.hid e2; have E3 := Lib.hid e3; have E4 := Lib.hid e4
  clear e1 e2 e3 e4
  go_enter Try.func17, Try.ntmps17
  go_wp2
  go_loop [5] (fun i => ∃ k : Nat, k ≤ n1 ∧ i = .int .i64 k ∧ (∀ j, j < k → (fun (d : DayD) => decide (d.prices.length ≤ 7)) (b.days.getD j default) = true)) (fun i => n1 - (intOf i).toNat)
  case atStart => exact ⟨0, Nat.zero_le _, rfl, fun _ h => absurd h (Nat.not_lt_zero _)⟩
  case round =>
    obtain ⟨k, hk, rfl, hall⟩ := hrel
    have HA := Lib.hid hall
    clear hall
    by_cases hlt : k < n1
    · have hkd : k < b.days.length := by have := E1.out; omega
      obtain ⟨bb, off, qa, qc, rfl, c1, c2, c3, hp⟩ := HBK.out.1 k hkd
      clear hp
      by_cases g : (b.days.getD k default).prices.length ≤ 7
      · have HA' : Hid (∀ j, j < k + 1 → (fun (d : DayD) => decide (d.prices.length ≤ 7)) (b.days.getD j default) = true) := fun j hj => by
          by_cases hjk : j < k
          · exact HA.out j hjk
          · have : j = k := by omega
            rw [this]; simpa using g
        clear hkd
        generalize (b.days.getD k default).prices.length = z at *
        go_wp2
        go_round
        case rel => exact ⟨k + 1, by omega, by go_num, HA'.out⟩
        case measure => simp [intOf]; omega
      · have HF : Hid (thinB b t = false) := by
          show thinB b t = false
          have := le_of_not_all (d := default) b.days (fun d => d.prices.length) k hkd (by omega)
          simp only [thinB, this, Bool.and_false, Bool.false_and]
        clear hkd
        generalize (b.days.getD k default).prices.length = z at *
        go_wp2
        go_ret
        exact ⟨ret_bool HF.out.symm, HB.out⟩
    · have HD : Hid (b.days.all (fun d => decide (d.prices.length ≤ 7)) = true) := (all_getD (d := default)).2 (fun j hj => HA.out j (by have := E1.out; omega))
      clear HA
      go_wp2
      clear hlt hk
      go_loop [6] (fun i => ∃ k : Nat, k ≤ n2 ∧ i = .int .i64 k ∧ (∀ j, j < k → (fun (d : LoanD) => decide (d.shares.length ≤ 7)) (b.loans.getD j default) = true)) (fun i => n2 - (intOf i).toNat)
      case atStart => exact ⟨0, Nat.zero_le _, rfl, fun _ h => absurd h (Nat.not_lt_zero _)⟩
      case round =>
        obtain ⟨k, hk, rfl, hall⟩ := hrel
        have HA := Lib.hid hall
        clear hall
        by_cases hlt : k < n2
        · have hkd : k < b.loans.length := by have := E2.out; omega
          obtain ⟨bb, off, qa, qc, rfl, c1, c2, c3, hp⟩ := HBK.out.2 k hkd
          clear hp
          by_cases g : (b.loans.getD k default).shares.length ≤ 7
          · have HA' : Hid (∀ j, j < k + 1 → (fun (d : LoanD) => decide (d.shares.length ≤ 7)) (b.loans.getD j default) = true) := fun j hj => by
              by_cases hjk : j < k
              · exact HA.out j hjk
              · have : j = k := by omega
                rw [this]; simpa using g
            clear hkd
            generalize (b.loans.getD k default).shares.length = z at *
            go_wp2
            go_round
            case rel => exact ⟨k + 1, by omega, by go_num, HA'.out⟩
            case measure => simp [intOf]; omega
          · have HF : Hid (thinB b t = false) := by
              show thinB b t = false
              have := le_of_not_all (d := default) b.loans (fun d => d.shares.length) k hkd (by omega)
              simp only [thinB, this, Bool.and_false, Bool.false_and]
            clear hkd
            generalize (b.loans.getD k default).shares.length = z at *
            go_wp2
            go_ret
            exact ⟨ret_bool HF.out.symm, HB.out⟩
        · have HL : Hid (b.loans.all (fun d => decide (d.shares.length ≤ 7)) = true) := (all_getD (d := default)).2 (fun j hj => HA.out j (by have := E2.out; omega))
          clear HA
          go_wp2
          clear hlt hk
          go_loop [7] (fun i => ∃ k : Nat, k ≤ n3 ∧ i = .int .i64 k ∧ (∀ j, j < k → (fun (d : List Int) => decide (d.length ≤ 7)) (t.prices.getD j []) = true)) (fun i => n3 - (intOf i).toNat)
          case atStart => exact ⟨0, Nat.zero_le _, rfl, fun _ h => absurd h (Nat.not_lt_zero _)⟩
          case round =>
            obtain ⟨k, hk, rfl, hall⟩ := hrel
            have HA := Lib.hid hall
            clear hall
            by_cases hlt : k < n3
            · have hkd : k < t.prices.length := by have := E3.out; omega
              obtain ⟨bb, off, qa, qc, rfl, c1, hp⟩ := HTR.out.1 k hkd
              clear hp
              by_cases g : (t.prices.getD k []).length ≤ 7
              · have HA' : Hid (∀ j, j < k + 1 → (fun (d : List Int) => decide (d.length ≤ 7)) (t.prices.getD j []) = true) := fun j hj => by
                  by_cases hjk : j < k
                  · exact HA.out j hjk
                  · have : j = k := by omega
                    rw [this]; simpa using g
                clear hkd
                generalize (t.prices.getD k []).length = z at *
                go_wp2
                go_round
                case rel => exact ⟨k + 1, by omega, by go_num, HA'.out⟩
                case measure => simp [intOf]; omega
              · have HF : Hid (thinB b t = false) := by
                  show thinB b t = false
                  have := le_of_not_all (d := []) t.prices (fun d => d.length) k hkd (by omega)
                  simp only [thinB, this, Bool.and_false]
                clear hkd
                generalize (t.prices.getD k []).length = z at *
                go_wp2
                go_ret
                exact ⟨ret_bool HF.out.symm, HB.out⟩
            · have HP : Hid (t.prices.all (fun d => decide (d.length ≤ 7)) = true) := (all_getD (d := [])).2 (fun j hj => HA.out j (by have := E3.out; omega))
              have HF : Hid (thinB b t = true) := by
                show thinB b t = true
                have := E1.out; have := E2.out; have := E3.out; have := E4.out; have := H1.out
                simp only [thinB, HD.out, HL.out, HP.out, Bool.and_true, Bool.and_eq_true, decide_eq_true_eq]
                omega
              clear HA
              go_wp2
              go_ret
              exact ⟨ret_bool HF.out.symm, HB.out⟩
end Go.Proofs.Ytfiacjdkdjkiiaa
