/- Walk over ref.Fault. -/
import Derived.Test.YtfiacjdkdjkiiaaW1
namespace Go.Proofs.Ytfiacjdkdjkiiaa
open Go.RowKit
set_option linter.unusedVariables false

theorem box3 {w wr : World} {x y z : Value} {T : TypeId} (h : Below (w.heap.size + 1) (w.alloc (.cells #[x, y, z] T)) wr) :
    wr.cell? ⟨w.heap.size, 0, none⟩ = some x ∧ wr.cell? ⟨w.heap.size, 1, none⟩ = some y ∧ wr.cell? ⟨w.heap.size, 2, none⟩ = some z ∧ w.heap.size + 1 ≤ wr.heap.size ∧ Below w.heap.size w wr := by
  refine ⟨?_, ?_, ?_, ?_, ?_⟩
  · rw [h.cell (p := ⟨w.heap.size, 0, none⟩) (by simp)]; simp [go_sem]
  · rw [h.cell (p := ⟨w.heap.size, 1, none⟩) (by simp)]; simp [go_sem]
  · rw [h.cell (p := ⟨w.heap.size, 2, none⟩) (by simp)]; simp [go_sem]
  · have := h.size; simpa using this
  · exact ((Below.refl _ _).alloc (Nat.le_refl _) _).trans (h.mono (by omega))

set_option maxRecDepth 100000 in
set_option maxHeartbeats 1000000 in
theorem fault_any (da la : Option Addr) (dc lc : Nat) (b : BankD) (w : World) (hD : DaysAt w da b.days) (hL : LoansAt w la b.loans) (hdl : b.days.length ≤ 1000) (hll : b.loans.length ≤ 1000) :
    Calls Try.prog 58 #[.agg #[.int .i64 b.stocks, .slice da b.days.length dc, .slice la b.loans.length lc]] w fun e w' => e = .returned (.int .i64 (faultN b)) ∧ Below w.heap.size w w' := by
  have HD := Lib.hid hD; have HL := Lib.hid hL
  clear hD hL
  generalize hdn : b.days.length = dn at *
  generalize hln : b.loans.length = ln at *
  generalize hst : b.stocks = st at *
  have HDN := Lib.hid hdn; have HLN := Lib.hid hln; have HST := Lib.hid hst
  clear hdn hln hst
  by_cases h1 : 4 < st
  · have HF : Hid (faultN b = 3) := fault_3 (by simp [greatB]; have := HST.out; omega)
    go_enter Try.func58, Try.ntmps58
    go_wp2
    go_ret
    exact ⟨ret_int HF.out.symm, (Below.refl _ _).alloc (Nat.le_refl _) _⟩
  by_cases h2 : 4 < dn
  · have HF : Hid (faultN b = 3) := fault_3 (by simp [greatB]; have := HDN.out; omega)
    go_enter Try.func58, Try.ntmps58
    go_wp2
    go_ret
    exact ⟨ret_int HF.out.symm, (Below.refl _ _).alloc (Nat.le_refl _) _⟩
  by_cases h3 : 4 < ln
  · have HF : Hid (faultN b = 3) := fault_3 (by simp [greatB]; have := HLN.out; omega)
    go_enter Try.func58, Try.ntmps58
    go_wp2
    go_ret
    exact ⟨ret_int HF.out.symm, (Below.refl _ _).alloc (Nat.le_refl _) _⟩
  have hG : Hid (greatB b = false) := by
    show greatB b = false
    have := HST.out; have := HDN.out; have := HLN.out
    simp [greatB]; omega
  by_cases h4 : st < 1
  · have HF : Hid (faultN b = 1) := fault_1 hG.out (by have := HST.out; simp [bankB]; omega)
    go_enter Try.func58, Try.ntmps58
    go_wp2
    go_ret
    exact ⟨ret_int HF.out.symm, (Below.refl _ _).alloc (Nat.le_refl _) _⟩
  by_cases h5 : dn = 0
  · have HF : Hid (faultN b = 1) := fault_1 hG.out (by have := HDN.out; rw [h5] at this; have := List.length_eq_zero_iff.1 this; simp [bankB, this])
    have h5' : ((dn : Int) == 0) = true := by simp; omega
    clear h5
    go_enter Try.func58, Try.ntmps58
    go_wp2
    go_ret
    exact ⟨ret_int HF.out.symm, (Below.refl _ _).alloc (Nat.le_refl _) _⟩
  have h5' : ((dn : Int) == 0) = false := by simp; omega
  have h5'' : 1 ≤ dn := by omega
  clear h5
  go_enter Try.func58, Try.ntmps58
  go_wp2
  go_loopw [3] (fun i wr => ∃ k : Nat, k ≤ dn ∧ i = .int .i64 k ∧ (∀ j, j < k → dayB st (b.days.getD j default) = true) ∧ Below (w.heap.size + 1) (w.alloc (.cells #[.int .i64 st, .slice da dn dc, .slice la ln lc] 25)) wr) (fun i _ => dn - (intOf i).toNat)
  case atStart => exact ⟨0, Nat.zero_le _, rfl, fun _ h => absurd h (Nat.not_lt_zero _), Below.refl _ _⟩
  case round =>
    obtain ⟨k, hk, rfl, hall, hbel⟩ := hrel
    have HA := Lib.hid hall; have HB := Lib.hid hbel
    obtain ⟨x0, x1, x2, hsz, hbw⟩ := box3 hbel
    have hsz' : w.heap.size < wr.heap.size := hsz
    have HBW := Lib.hid hbw
    clear hall hbel hbw
    by_cases hlt : k < dn
    · have hkd : k < b.days.length := by have := HDN.out; omega
      obtain ⟨bb, off, pa, pc, rfl, c1, c2, c3, hp⟩ := (HD.out.below HBW.out) k hkd
      have HP := Lib.hid hp
      clear hp
      have hbb : bb < wr.heap.size := World.block_lt_of_cell? _ _ c1
      have HKD := Lib.hid hkd
      clear hkd
      generalize hd : b.days.getD k default = d at *
      have HDD := Lib.hid hd
      clear hd
      by_cases g1 : (d.prices.length : Int) = st
      case neg =>
        have g1' : ((d.prices.length : Int) != st) = true := by simpa using g1
        have HF : Hid (faultN b = 1) := fault_day hG.out k HKD.out (by rw [HDD.out, HST.out]; exact dayB_len g1)
        clear g1
        go_wp2
        go_ret
        exact ⟨ret_int HF.out.symm, HBW.out.alloc (by omega) _⟩
      have g1' : ((d.prices.length : Int) != st) = false := by simpa using g1
      have G1 := Lib.hid g1
      clear g1
      cases g2 : inB d.rate.lo 0 d.rate.hi
      case false =>
        have HF : Hid (faultN b = 1) := fault_day hG.out k HKD.out (by rw [HDD.out, HST.out]; exact dayB_rate g2)
        have G2 := Lib.hid g2
        clear g2
        go_wp2_with (go_at_call 32; refine (in_false _ _ _ _ G2.out).mono ?_; rintro e w' ⟨rfl, rfl⟩)
        go_ret
        exact ⟨ret_int HF.out.symm, HBW.out.alloc (by omega) _⟩
      have G2 := Lib.hid g2
      clear g2
      by_cases g3 : 100 < d.rate.hi
      · have HF : Hid (faultN b = 1) := fault_day hG.out k HKD.out (by rw [HDD.out, HST.out]; exact dayB_hi g3)
        go_wp2_with (go_at_call 32; refine (in_true _ _ _ _ G2.out).mono ?_; rintro e w' ⟨rfl, rfl⟩)
        go_ret
        exact ⟨ret_int HF.out.symm, HBW.out.alloc (by omega) _⟩
      go_wp2_with (first | (go_at_call 32; refine (in_true _ _ _ _ G2.out).mono ?_; rintro e w' ⟨rfl, rfl⟩) | fail)
      have hle : (d.prices.length : Int) ≤ st := by have := G1.out; omega
      have hge : st ≤ (d.prices.length : Int) := by have := G1.out; omega
      generalize hpn : d.prices.length = pn at *
      have HPN := Lib.hid hpn
      clear hpn
      obtain ⟨wo, rfl⟩ : ∃ wo : World, wo = wr := ⟨_, rfl⟩
      go_loopw [5] (fun i wq => ∃ s q : Nat, s ≤ pn ∧ i = .int .i64 s ∧ (∀ j, j < s → rngB (d.prices.getD j default) 1000 = true) ∧ wq = (wo.alloc (.cells #[.slice pa pn pc, .int .i64 d.rate.lo, .int .i64 d.rate.hi] 88)).drewN q) (fun i _ => pn - (intOf i).toNat)
      case atStart => exact ⟨0, 0, Nat.zero_le _, rfl, fun _ h => absurd h (Nat.not_lt_zero _), rfl⟩
      case round =>
        obtain ⟨s, q, hs, rfl, hall, rfl⟩ := hrel
        have HQ := Lib.hid hall
        clear hall
        by_cases hls : s < pn
        · have hkp : s < d.prices.length := by have := HPN.out; omega
          obtain ⟨b2, off2, rfl, p1, p2⟩ := HP.out s hkp
          have HKP := Lib.hid hkp
          have hb2 : b2 < wo.heap.size := World.block_lt_of_cell? _ _ p1
          clear hkp
          have hst1 : (s : Int) < st := by omega
          generalize hr : d.prices.getD s default = r at *
          have HR := Lib.hid hr
          clear hr
          cases g4 : inB r.lo 0 r.hi
          case false =>
            have HF : Hid (faultN b = 1) := fault_day hG.out k HKD.out (by rw [HDD.out, HST.out]; exact dayB_price s HKP.out (by rw [HR.out]; exact rngB_in g4))
            have G4 := Lib.hid g4
            clear g4
            go_wp2
            go_quiet ((go_at_call 32; exact quiet_add_left (in_false _ _ _ _ G4.out)))
            go_wp2
            go_ret
            exact ⟨ret_int HF.out.symm, below_drewN' (below_drewN' (HBW.out.alloc (by omega) _) _) _⟩
          by_cases g5 : 1000 < r.hi
          · have HF : Hid (faultN b = 1) := fault_day hG.out k HKD.out (by rw [HDD.out, HST.out]; exact dayB_price s HKP.out (by rw [HR.out]; exact rngB_hi g5))
            have G4 := Lib.hid g4
            clear g4
            go_wp2
            go_quiet ((go_at_call 32; exact quiet_add_left (in_true _ _ _ _ G4.out)))
            go_wp2
            go_ret
            exact ⟨ret_int HF.out.symm, below_drewN' (below_drewN' (HBW.out.alloc (by omega) _) _) _⟩
          · have HN : Hid (rngB r 1000 = true) := rngB_ok g4 g5
            have g5' : decide (1000 < r.hi) = false := by simpa using g5
            have G4 := Lib.hid g4
            clear g4
            go_wp2
            go_quiet ((go_at_call 32; exact quiet_add_left (in_true _ _ _ _ G4.out)))
            go_wp2
            go_roundw
            case rel =>
              refine ⟨s + 1, _, by omega, by go_num, fun j hj => ?_, rfl⟩
              by_cases hjs : j < s
              · exact HQ.out j hjs
              · have : j = s := by omega
                rw [this, HR.out]; exact HN.out
            case measure => simp [intOf]; omega
        · have HN : Hid (dayB st d = true) := dayB_ok (by rw [HPN.out]; exact G1.out) G2.out (by omega) (fun j hj => HQ.out j (by have := HPN.out; omega))
          go_wp2
          go_roundw
          case rel =>
            refine ⟨k + 1, by omega, by go_num, fun j hj => ?_, below_drewN' (HB.out.alloc (by omega) _) _⟩
            by_cases hjs : j < k
            · exact HA.out j hjs
            · have : j = k := by omega
              rw [this, HDD.out]; exact HN.out
          case measure => simp [intOf]; omega
    · have HDAYS : Hid (∀ j, j < b.days.length → dayB b.stocks (b.days.getD j default) = true) := fun j hj => by
        have := HDN.out
        rw [HST.out]; exact HA.out j (by omega)
      have hkdn : dn ≤ k := by omega
      clear hlt
      obtain ⟨wp, rfl⟩ : ∃ wp : World, wp = wr := ⟨_, rfl⟩
      go_wp2
      go_loopw [6] (fun i wr => ∃ k : Nat, k ≤ ln ∧ i = .int .i64 k ∧ (∀ j, j < k → loanB st (b.loans.getD j default) = true) ∧ Below (w.heap.size + 1) (w.alloc (.cells #[.int .i64 st, .slice da dn dc, .slice la ln lc] 25)) wr) (fun i _ => ln - (intOf i).toNat)
      case atStart => exact ⟨0, Nat.zero_le _, rfl, fun _ h => absurd h (Nat.not_lt_zero _), HB.out⟩
      case round =>
        clear x0 x1 x2 hsz hsz' HBW HB HA
        obtain ⟨m, hm, rfl, hall, hbel⟩ := hrel
        have HA := Lib.hid hall; have HB := Lib.hid hbel
        obtain ⟨x0, x1, x2, hsz, hbw⟩ := box3 hbel
        have hsz' : w.heap.size < wr.heap.size := hsz
        have HBW := Lib.hid hbw
        clear hall hbel hbw
        by_cases hlt : m < ln
        · have hkd : m < b.loans.length := by have := HLN.out; omega
          obtain ⟨bb, off, pa, pc, rfl, c1, c2, c3, hp⟩ := (HL.out.below HBW.out) m hkd
          have HP := Lib.hid hp
          clear hp
          have hbb : bb < wr.heap.size := World.block_lt_of_cell? _ _ c1
          have HKD := Lib.hid hkd
          clear hkd
          generalize hd : b.loans.getD m default = d at *
          have HDD := Lib.hid hd
          clear hd
          cases g1 : inB d.money 0 100000
          case false =>
            have HF : Hid (faultN b = 1) := fault_loan hG.out m HKD.out (by rw [HDD.out, HST.out]; exact loanB_money g1)
            have G1 := Lib.hid g1
            clear g1
            go_wp2_with (go_at_call 32; refine (in_false _ _ _ _ G1.out).mono ?_; rintro e w' ⟨rfl, rfl⟩)
            go_ret
            exact ⟨ret_int HF.out.symm, HBW.out.alloc (by omega) _⟩
          cases g2 : inB d.margin 0 100
          case false =>
            have HF : Hid (faultN b = 1) := fault_loan hG.out m HKD.out (by rw [HDD.out, HST.out]; exact loanB_margin g2)
            have G1 := Lib.hid g1
            have G2 := Lib.hid g2
            clear g1 g2
            go_wp2_with fail
            refine (in_true _ _ _ _ G1.out).mono ?_
            rintro e w' ⟨rfl, rfl⟩
            go_wp2_with fail
            refine (in_false _ _ _ _ G2.out).mono ?_
            rintro e w' ⟨rfl, rfl⟩
            go_wp2_with fail
            go_ret
            exact ⟨ret_int HF.out.symm, HBW.out.alloc (by omega) _⟩
          have G1 := Lib.hid g1
          have G2 := Lib.hid g2
          clear g1 g2
          by_cases g3 : (d.shares.length : Int) = st
          case neg =>
            have g1' : ((d.shares.length : Int) != st) = true := by simpa using g3
            have HF : Hid (faultN b = 1) := fault_loan hG.out m HKD.out (by rw [HDD.out, HST.out]; exact loanB_len g3)
            clear g3
            go_wp2_with fail
            refine (in_true _ _ _ _ G1.out).mono ?_
            rintro e w' ⟨rfl, rfl⟩
            go_wp2_with fail
            refine (in_true _ _ _ _ G2.out).mono ?_
            rintro e w' ⟨rfl, rfl⟩
            go_wp2_with fail
            go_ret
            exact ⟨ret_int HF.out.symm, HBW.out.alloc (by omega) _⟩
          have g1' : ((d.shares.length : Int) != st) = false := by simpa using g3
          have hle : (d.shares.length : Int) ≤ st := by omega
          have hge : st ≤ (d.shares.length : Int) := by omega
          have G3 := Lib.hid g3
          clear g3
          generalize hpn : d.shares.length = pn at *
          have HPN := Lib.hid hpn
          clear hpn
          go_wp2_with fail
          refine (in_true _ _ _ _ G1.out).mono ?_
          rintro e w' ⟨rfl, rfl⟩
          go_wp2_with fail
          refine (in_true _ _ _ _ G2.out).mono ?_
          rintro e w' ⟨rfl, rfl⟩
          go_wp2_with fail
          obtain ⟨wo, rfl⟩ : ∃ wo : World, wo = wr := ⟨_, rfl⟩
          go_loop [8] (fun i => ∃ s : Nat, s ≤ pn ∧ i = .int .i64 s ∧ (∀ j, j < s → inB (d.shares.getD j 0) 0 100 = true)) (fun i => pn - (intOf i).toNat)
          case atStart => exact ⟨0, Nat.zero_le _, rfl, fun _ h => absurd h (Nat.not_lt_zero _)⟩
          case round =>
            obtain ⟨s, hs, rfl, hall⟩ := hrel
            have HQ := Lib.hid hall
            clear hall
            by_cases hls : s < pn
            · have hkp : s < d.shares.length := by have := HPN.out; omega
              obtain ⟨b2, off2, rfl, p1⟩ := HP.out s hkp
              have HKP := Lib.hid hkp
              have hb2 : b2 < wo.heap.size := World.block_lt_of_cell? _ _ p1
              clear hkp
              have hst1 : (s : Int) < st := by omega
              generalize hr : d.shares.getD s 0 = r at *
              have HR := Lib.hid hr
              clear hr
              cases g4 : inB r 0 100
              case false =>
                have HF : Hid (faultN b = 1) := fault_loan hG.out m HKD.out (by rw [HDD.out, HST.out]; exact loanB_share s HKP.out (by rw [HR.out]; exact g4))
                have G4 := Lib.hid g4
                clear g4
                go_wp2_with (go_at_call 32; refine (in_false _ _ _ _ G4.out).mono ?_; rintro e w' ⟨rfl, rfl⟩)
                go_ret
                exact ⟨ret_int HF.out.symm, HBW.out.alloc (by omega) _⟩
              have G4 := Lib.hid g4
              clear g4
              go_wp2_with (go_at_call 32; refine (in_true _ _ _ _ G4.out).mono ?_; rintro e w' ⟨rfl, rfl⟩)
              go_round
              case rel =>
                refine ⟨s + 1, by omega, by go_num, fun j hj => ?_⟩
                by_cases hjs : j < s
                · exact HQ.out j hjs
                · have : j = s := by omega
                  rw [this, HR.out]; exact G4.out
              case measure => simp [intOf]; omega
            · have HN : Hid (loanB st d = true) := loanB_ok G1.out G2.out (by rw [HPN.out]; exact G3.out) (fun j hj => HQ.out j (by have := HPN.out; omega))
              go_wp2
              go_roundw
              case rel =>
                refine ⟨m + 1, by omega, by go_num, fun j hj => ?_, HB.out.alloc (by omega) _⟩
                by_cases hjs : j < m
                · exact HA.out j hjs
                · have : j = m := by omega
                  have h5 := HN.out
                  rw [← HDD.out] at h5
                  rw [this]; exact h5
              case measure => simp [intOf]; omega
        · have HF : Hid (faultN b = 0) := fault_0 hG.out (bankB_ok (by have := HST.out; omega) (by have := HDN.out; omega) HDAYS.out (fun j hj => by
            have := HLN.out
            rw [HST.out]; exact HA.out j (by omega)))
          go_wp2
          go_ret
          exact ⟨ret_int HF.out.symm, HBW.out⟩
end Go.Proofs.Ytfiacjdkdjkiiaa
