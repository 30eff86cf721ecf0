/- Joined texts: W2, W8, W9, Ve. -/
import Derived.Test.YtfiacjdkdjkiiaaGWa
import Derived.Deep.AppendLies
import Derived.Laws.AppendOwnNone
import Derived.Test.YtfiacjdkdjkiiaaGBs
import Derived.Laws.StructEq
import Derived.ChangeKeysEq
section
namespace Go.Proofs.Ytfiacjdkdjkiiaa
open Go.RowKit
set_option linter.unusedVariables false

theorem box3 {w wr : World} {x y z : Value} {T : TypeId} (h : Below (w.heap.size + 1) (w.alloc (.cells #[x, y, z] T)) wr) :
    wr.cell? ⟨w.heap.size, 0, none⟩ = some x ∧ wr.cell? ⟨w.heap.size, 1, none⟩ = some y ∧ wr.cell? ⟨w.heap.size, 2, none⟩ = some z ∧ w.heap.size + 1 ≤ wr.heap.size ∧ Below w.heap.size w wr := by
  refine ⟨?_, ?_, ?_, ?_, ?_⟩
  · rw [h.cell (p := ⟨w.heap.size, 0, none⟩) (by simp)]; simp [go_sem]
  · rw [h.cell (p := ⟨w.heap.size, 1, none⟩) (by simp)]; simp [go_sem]
  · rw [h.cell (p := ⟨w.heap.size, 2, none⟩) (by simp)]; simp [go_sem]
  · have := h.size; simpa using this
  · exact ((Below.refl _ _).alloc (Nat.le_refl _) _).trans (h.mono (by omega))

set_option maxRecDepth 100000 in
set_option maxHeartbeats 1000000 in
theorem fault_any (da la : Option Addr) (dc lc : Nat) (b : BankD) (w : World) (hD : DaysAt w da b.days) (hL : LoansAt w la b.loans) (hdl : b.days.length ≤ 1000) (hll : b.loans.length ≤ 1000) :
    Calls Try.prog 58 #[.agg #[.int .i64 b.stocks, .slice da b.days.length dc, .slice la b.loans.length lc]] w fun e w' => e = .returned (.int .i64 (faultN b)) ∧ Below w.heap.size w w' := by
  have HD := Lib.hid hD; have HL := Lib.hid hL
  clear hD hL
  generalize hdn : b.days.length = dn at *
  generalize hln : b.loans.length = ln at *
  generalize hst : b.stocks = st at *
  have HDN := Lib.hid hdn; have HLN := Lib.hid hln; have HST := Lib.hid hst
  clear hdn hln hst
  by_cases h1 : 4 < st
  · have HF : Hid (faultN b = 3) := fault_3 (by simp [greatB]; have := HST.out; omega)
    go_enter Try.func58, Try.ntmps58
    go_wp2
    go_ret
    exact ⟨ret_int HF.out.symm, (Below.refl _ _).alloc (Nat.le_refl _) _⟩
  by_cases h2 : 4 < dn
  · have HF : Hid (faultN b = 3) := fault_3 (by simp [greatB]; have := HDN.out; omega)
    go_enter Try.func58, Try.ntmps58
    go_wp2
    go_ret
    exact ⟨ret_int HF.out.symm, (Below.refl _ _).alloc (Nat.le_refl _) _⟩
  by_cases h3 : 4 < ln
  · have HF : Hid (faultN b = 3) := fault_3 (by simp [greatB]; have := HLN.out; omega)
    go_enter Try.func58, Try.ntmps58
    go_wp2
    go_ret
    exact ⟨ret_int HF.out.symm, (Below.refl _ _).alloc (Nat.le_refl _) _⟩
  have hG : Hid (greatB b = false) := by
    show greatB b = false
    have := HST.out; have := HDN.out; have := HLN.out
    simp [greatB]; omega
  by_cases h4 : st < 1
  · have HF : Hid (faultN b = 1) := fault_1 hG.out (by have := HST.out; simp [bankB]; omega)
    go_enter Try.func58, Try.ntmps58
    go_wp2
    go_ret
    exact ⟨ret_int HF.out.symm, (Below.refl _ _).alloc (Nat.le_refl _) _⟩
  by_cases h5 : dn = 0
  · have HF : Hid (faultN b = 1) := fault_1 hG.out (by have := HDN.out; rw [h5] at this; have := List.length_eq_zero_iff.1 this; simp [bankB, this])
    have h5' : ((dn : Int) == 0) = true := by simp; omega
    clear h5
    go_enter Try.func58, Try.ntmps58
    go_wp2
    go_ret
    exact ⟨ret_int HF.out.symm, (Below.refl _ _).alloc (Nat.le_refl _) _⟩
  have h5' : ((dn : Int) == 0) = false := by simp; omega
  have h5'' : 1 ≤ dn := by omega
  clear h5
  go_enter Try.func58, Try.ntmps58
  go_wp2
  go_loopw [3] (fun i wr => ∃ k : Nat, k ≤ dn ∧ i = .int .i64 k ∧ (∀ j, j < k → dayB st (b.days.getD j default) = true) ∧ Below (w.heap.size + 1) (w.alloc (.cells #[.int .i64 st, .slice da dn dc, .slice la ln lc] 25)) wr) (fun i _ => dn - (intOf i).toNat)
  case atStart => exact ⟨0, Nat.zero_le _, rfl, fun _ h => absurd h (Nat.not_lt_zero _), Below.refl _ _⟩
  case round =>
    obtain ⟨k, hk, rfl, hall, hbel⟩ := hrel
    have HA := Lib.hid hall; have HB := Lib.hid hbel
    obtain ⟨x0, x1, x2, hsz, hbw⟩ := box3 hbel
    have hsz' : w.heap.size < wr.heap.size := hsz
    have HBW := Lib.hid hbw
    clear hall hbel hbw
    by_cases hlt : k < dn
    · have hkd : k < b.days.length := by have := HDN.out; omega
      obtain ⟨bb, off, pa, pc, rfl, c1, c2, c3, hp⟩ := (HD.out.below HBW.out) k hkd
      have HP := Lib.hid hp
      clear hp
      have hbb : bb < wr.heap.size := World.block_lt_of_cell? _ _ c1
      have HKD := Lib.hid hkd
      clear hkd
      generalize hd : b.days.getD k default = d at *
      have HDD := Lib.hid hd
      clear hd
      by_cases g1 : (d.prices.length : Int) = st
      case neg =>
        have g1' : ((d.prices.length : Int) != st) = true := by simpa using g1
        have HF : Hid (faultN b = 1) := fault_day hG.out k HKD.out (by rw [HDD.out, HST.out]; exact dayB_len g1)
        clear g1
        go_wp2
        go_ret
        exact ⟨ret_int HF.out.symm, HBW.out.alloc (by omega) _⟩
      have g1' : ((d.prices.length : Int) != st) = false := by simpa using g1
      have G1 := Lib.hid g1
      clear g1
      cases g2 : inB d.rate.lo 0 d.rate.hi
      case false =>
        have HF : Hid (faultN b = 1) := fault_day hG.out k HKD.out (by rw [HDD.out, HST.out]; exact dayB_rate g2)
        have G2 := Lib.hid g2
        clear g2
        go_wp2_with (go_at_call 32; refine (in_false _ _ _ _ G2.out).mono ?_; rintro e w' ⟨rfl, rfl⟩)
        go_ret
        exact ⟨ret_int HF.out.symm, HBW.out.alloc (by omega) _⟩
      have G2 := Lib.hid g2
      clear g2
      by_cases g3 : 100 < d.rate.hi
      · have HF : Hid (faultN b = 1) := fault_day hG.out k HKD.out (by rw [HDD.out, HST.out]; exact dayB_hi g3)
        go_wp2_with (go_at_call 32; refine (in_true _ _ _ _ G2.out).mono ?_; rintro e w' ⟨rfl, rfl⟩)
        go_ret
        exact ⟨ret_int HF.out.symm, HBW.out.alloc (by omega) _⟩
      go_wp2_with (first | (go_at_call 32; refine (in_true _ _ _ _ G2.out).mono ?_; rintro e w' ⟨rfl, rfl⟩) | fail)
      have hle : (d.prices.length : Int) ≤ st := by have := G1.out; omega
      have hge : st ≤ (d.prices.length : Int) := by have := G1.out; omega
      generalize hpn : d.prices.length = pn at *
      have HPN := Lib.hid hpn
      clear hpn
      obtain ⟨wo, rfl⟩ : ∃ wo : World, wo = wr := ⟨_, rfl⟩
      go_loopw [5] (fun i wq => ∃ s q : Nat, s ≤ pn ∧ i = .int .i64 s ∧ (∀ j, j < s → rngB (d.prices.getD j default) 1000 = true) ∧ wq = (wo.alloc (.cells #[.slice pa pn pc, .int .i64 d.rate.lo, .int .i64 d.rate.hi] 88)).drewN q) (fun i _ => pn - (intOf i).toNat)
      case atStart => exact ⟨0, 0, Nat.zero_le _, rfl, fun _ h => absurd h (Nat.not_lt_zero _), rfl⟩
      case round =>
        obtain ⟨s, q, hs, rfl, hall, rfl⟩ := hrel
        have HQ := Lib.hid hall
        clear hall
        by_cases hls : s < pn
        · have hkp : s < d.prices.length := by have := HPN.out; omega
          obtain ⟨b2, off2, rfl, p1, p2⟩ := HP.out s hkp
          have HKP := Lib.hid hkp
          have hb2 : b2 < wo.heap.size := World.block_lt_of_cell? _ _ p1
          clear hkp
          have hst1 : (s : Int) < st := by omega
          generalize hr : d.prices.getD s default = r at *
          have HR := Lib.hid hr
          clear hr
          cases g4 : inB r.lo 0 r.hi
          case false =>
            have HF : Hid (faultN b = 1) := fault_day hG.out k HKD.out (by rw [HDD.out, HST.out]; exact dayB_price s HKP.out (by rw [HR.out]; exact rngB_in g4))
            have G4 := Lib.hid g4
            clear g4
            go_wp2
            go_quiet ((go_at_call 32; exact quiet_add_left (in_false _ _ _ _ G4.out)))
            go_wp2
            go_ret
            exact ⟨ret_int HF.out.symm, below_drewN' (below_drewN' (HBW.out.alloc (by omega) _) _) _⟩
          by_cases g5 : 1000 < r.hi
          · have HF : Hid (faultN b = 1) := fault_day hG.out k HKD.out (by rw [HDD.out, HST.out]; exact dayB_price s HKP.out (by rw [HR.out]; exact rngB_hi g5))
            have G4 := Lib.hid g4
            clear g4
            go_wp2
            go_quiet ((go_at_call 32; exact quiet_add_left (in_true _ _ _ _ G4.out)))
            go_wp2
            go_ret
            exact ⟨ret_int HF.out.symm, below_drewN' (below_drewN' (HBW.out.alloc (by omega) _) _) _⟩
          · have HN : Hid (rngB r 1000 = true) := rngB_ok g4 g5
            have g5' : decide (1000 < r.hi) = false := by simpa using g5
            have G4 := Lib.hid g4
            clear g4
            go_wp2
            go_quiet ((go_at_call 32; exact quiet_add_left (in_true _ _ _ _ G4.out)))
            go_wp2
            go_roundw
            case rel =>
              refine ⟨s + 1, _, by omega, by go_num, fun j hj => ?_, rfl⟩
              by_cases hjs : j < s
              · exact HQ.out j hjs
              · have : j = s := by omega
                rw [this, HR.out]; exact HN.out
            case measure => simp [intOf]; omega
        · have HN : Hid (dayB st d = true) := dayB_ok (by rw [HPN.out]; exact G1.out) G2.out (by omega) (fun j hj => HQ.out j (by have := HPN.out; omega))
          go_wp2
          go_roundw
          case rel =>
            refine ⟨k + 1, by omega, by go_num, fun j hj => ?_, below_drewN' (HB.out.alloc (by omega) _) _⟩
            by_cases hjs : j < k
            · exact HA.out j hjs
            · have : j = k := by omega
              rw [this, HDD.out]; exact HN.out
          case measure => simp [intOf]; omega
    · have HDAYS : Hid (∀ j, j < b.days.length → dayB b.stocks (b.days.getD j default) = true) := fun j hj => by
        have := HDN.out
        rw [HST.out]; exact HA.out j (by omega)
      have hkdn : dn ≤ k := by omega
      clear hlt
      obtain ⟨wp, rfl⟩ : ∃ wp : World, wp = wr := ⟨_, rfl⟩
      go_wp2
      go_loopw [6] (fun i wr => ∃ k : Nat, k ≤ ln ∧ i = .int .i64 k ∧ (∀ j, j < k → loanB st (b.loans.getD j default) = true) ∧ Below (w.heap.size + 1) (w.alloc (.cells #[.int .i64 st, .slice da dn dc, .slice la ln lc] 25)) wr) (fun i _ => ln - (intOf i).toNat)
      case atStart => exact ⟨0, Nat.zero_le _, rfl, fun _ h => absurd h (Nat.not_lt_zero _), HB.out⟩
      case round =>
        clear x0 x1 x2 hsz hsz' HBW HB HA
        obtain ⟨m, hm, rfl, hall, hbel⟩ := hrel
        have HA := Lib.hid hall; have HB := Lib.hid hbel
        obtain ⟨x0, x1, x2, hsz, hbw⟩ := box3 hbel
        have hsz' : w.heap.size < wr.heap.size := hsz
        have HBW := Lib.hid hbw
        clear hall hbel hbw
        by_cases hlt : m < ln
        · have hkd : m < b.loans.length := by have := HLN.out; omega
          obtain ⟨bb, off, pa, pc, rfl, c1, c2, c3, hp⟩ := (HL.out.below HBW.out) m hkd
          have HP := Lib.hid hp
          clear hp
          have hbb : bb < wr.heap.size := World.block_lt_of_cell? _ _ c1
          have HKD := Lib.hid hkd
          clear hkd
          generalize hd : b.loans.getD m default = d at *
          have HDD := Lib.hid hd
          clear hd
          cases g1 : inB d.money 0 100000
          case false =>
            have HF : Hid (faultN b = 1) := fault_loan hG.out m HKD.out (by rw [HDD.out, HST.out]; exact loanB_money g1)
            have G1 := Lib.hid g1
            clear g1
            go_wp2_with (go_at_call 32; refine (in_false _ _ _ _ G1.out).mono ?_; rintro e w' ⟨rfl, rfl⟩)
            go_ret
            exact ⟨ret_int HF.out.symm, HBW.out.alloc (by omega) _⟩
          cases g2 : inB d.margin 0 100
          case false =>
            have HF : Hid (faultN b = 1) := fault_loan hG.out m HKD.out (by rw [HDD.out, HST.out]; exact loanB_margin g2)
            have G1 := Lib.hid g1
            have G2 := Lib.hid g2
            clear g1 g2
            go_wp2_with fail
            refine (in_true _ _ _ _ G1.out).mono ?_
            rintro e w' ⟨rfl, rfl⟩
            go_wp2_with fail
            refine (in_false _ _ _ _ G2.out).mono ?_
            rintro e w' ⟨rfl, rfl⟩
            go_wp2_with fail
            go_ret
            exact ⟨ret_int HF.out.symm, HBW.out.alloc (by omega) _⟩
          have G1 := Lib.hid g1
          have G2 := Lib.hid g2
          clear g1 g2
          by_cases g3 : (d.shares.length : Int) = st
          case neg =>
            have g1' : ((d.shares.length : Int) != st) = true := by simpa using g3
            have HF : Hid (faultN b = 1) := fault_loan hG.out m HKD.out (by rw [HDD.out, HST.out]; exact loanB_len g3)
            clear g3
            go_wp2_with fail
            refine (in_true _ _ _ _ G1.out).mono ?_
            rintro e w' ⟨rfl, rfl⟩
            go_wp2_with fail
            refine (in_true _ _ _ _ G2.out).mono ?_
            rintro e w' ⟨rfl, rfl⟩
            go_wp2_with fail
            go_ret
            exact ⟨ret_int HF.out.symm, HBW.out.alloc (by omega) _⟩
          have g1' : ((d.shares.length : Int) != st) = false := by simpa using g3
          have hle : (d.shares.length : Int) ≤ st := by omega
          have hge : st ≤ (d.shares.length : Int) := by omega
          have G3 := Lib.hid g3
          clear g3
          generalize hpn : d.shares.length = pn at *
          have HPN := Lib.hid hpn
          clear hpn
          go_wp2_with fail
          refine (in_true _ _ _ _ G1.out).mono ?_
          rintro e w' ⟨rfl, rfl⟩
          go_wp2_with fail
          refine (in_true _ _ _ _ G2.out).mono ?_
          rintro e w' ⟨rfl, rfl⟩
          go_wp2_with fail
          obtain ⟨wo, rfl⟩ : ∃ wo : World, wo = wr := ⟨_, rfl⟩
          go_loop [8] (fun i => ∃ s : Nat, s ≤ pn ∧ i = .int .i64 s ∧ (∀ j, j < s → inB (d.shares.getD j 0) 0 100 = true)) (fun i => pn - (intOf i).toNat)
          case atStart => exact ⟨0, Nat.zero_le _, rfl, fun _ h => absurd h (Nat.not_lt_zero _)⟩
          case round =>
            obtain ⟨s, hs, rfl, hall⟩ := hrel
            have HQ := Lib.hid hall
            clear hall
            by_cases hls : s < pn
            · have hkp : s < d.shares.length := by have := HPN.out; omega
              obtain ⟨b2, off2, rfl, p1⟩ := HP.out s hkp
              have HKP := Lib.hid hkp
              have hb2 : b2 < wo.heap.size := World.block_lt_of_cell? _ _ p1
              clear hkp
              have hst1 : (s : Int) < st := by omega
              generalize hr : d.shares.getD s 0 = r at *
              have HR := Lib.hid hr
              clear hr
              cases g4 : inB r 0 100
              case false =>
                have HF : Hid (faultN b = 1) := fault_loan hG.out m HKD.out (by rw [HDD.out, HST.out]; exact loanB_share s HKP.out (by rw [HR.out]; exact g4))
                have G4 := Lib.hid g4
                clear g4
                go_wp2_with (go_at_call 32; refine (in_false _ _ _ _ G4.out).mono ?_; rintro e w' ⟨rfl, rfl⟩)
                go_ret
                exact ⟨ret_int HF.out.symm, HBW.out.alloc (by omega) _⟩
              have G4 := Lib.hid g4
              clear g4
              go_wp2_with (go_at_call 32; refine (in_true _ _ _ _ G4.out).mono ?_; rintro e w' ⟨rfl, rfl⟩)
              go_round
              case rel =>
                refine ⟨s + 1, by omega, by go_num, fun j hj => ?_⟩
                by_cases hjs : j < s
                · exact HQ.out j hjs
                · have : j = s := by omega
                  rw [this, HR.out]; exact G4.out
              case measure => simp [intOf]; omega
            · have HN : Hid (loanB st d = true) := loanB_ok G1.out G2.out (by rw [HPN.out]; exact G3.out) (fun j hj => HQ.out j (by have := HPN.out; omega))
              go_wp2
              go_roundw
              case rel =>
                refine ⟨m + 1, by omega, by go_num, fun j hj => ?_, HB.out.alloc (by omega) _⟩
                by_cases hjs : j < m
                · exact HA.out j hjs
                · have : j = m := by omega
                  have h5 := HN.out
                  rw [← HDD.out] at h5
                  rw [this]; exact h5
              case measure => simp [intOf]; omega
        · have HF : Hid (faultN b = 0) := fault_0 hG.out (bankB_ok (by have := HST.out; omega) (by have := HDN.out; omega) HDAYS.out (fun j hj => by
            have := HLN.out
            rw [HST.out]; exact HA.out j (by omega)))
          go_wp2
          go_ret
          exact ⟨ret_int HF.out.symm, HBW.out⟩
end Go.Proofs.Ytfiacjdkdjkiiaa
end
section
namespace Go.Proofs.Ytfiacjdkdjkiiaa
open Go.RowKit
set_option linter.unusedVariables false

theorem Try.info3 : (Try.prog.info? 3).map (fun i => (i.zero, i.size, i.bytes)) = some (some (.int .i64 0), 1, 8) := by kernel_rfl

def intCells (xs : List Int) : List Value := xs.map (Value.int .i64)

theorem intCells_one (xs : List Int) : ∀ u ∈ intCells xs, u.oneCell' = true := by
  intro u hu
  simp only [intCells, List.mem_map] at hu
  obtain ⟨n, _, rfl⟩ := hu
  rfl
theorem intCells_get {w : World} {b off : Nat} {xs : List Int} (h : IntsAt w (some ⟨b, off, none⟩) xs) : ∀ j u, (intCells xs)[j]? = some u → w.cell? ((⟨b, off, none⟩ : Addr).add j) = some u := by
  intro j u hu
  simp only [intCells, List.getElem?_map, Option.map_eq_some_iff] at hu
  obtain ⟨n, hn, rfl⟩ := hu
  have hj : j < xs.length := (List.getElem?_eq_some_iff.1 hn).1
  obtain ⟨b', off', e, c⟩ := h j hj
  simp only [Option.some.injEq, Addr.mk.injEq] at e
  obtain ⟨rfl, rfl, _⟩ := e
  rw [List.getD_eq_getElem?_getD, hn] at c
  have : ((⟨b, off, none⟩ : Addr).add j) = ⟨b, off + j, none⟩ := by unfold Addr.add; split <;> simp_all
  rw [this]; exact c
/-- a row that is owned, as a slice of integers -/
theorem own_ints {w : World} {base : Nat} {v : Value} {xs : List Int} (h : w.ownsRow base 3 1 v xs.length (intCells xs)) : ∃ a cap, v = .slice a xs.length cap ∧ IntsAt w a xs ∧ (∀ g, v.ownBlock = some g → base ≤ g ∧ g < w.heap.size) := by
  have hlt := h.lt
  have hcell := @World.ownsRow.cells _ _ _ _ _ _ _ h
  obtain ⟨hl, h⟩ := h
  rcases h with ⟨rfl, h0⟩ | ⟨g, cap, cur, rfl, hb, hc, hn, hm, hs, ht⟩
  · refine ⟨none, 0, by rw [h0], ?_, hlt⟩
    intro k hk; omega
  · refine ⟨some ⟨g, 0, none⟩, cap, rfl, ?_, hlt⟩
    intro k hk
    refine ⟨g, 0, rfl, ?_⟩
    have := hcell (g := g) rfl k (.int .i64 (xs.getD k 0)) (by
      simp [intCells, List.getElem?_map, List.getD_eq_getElem?_getD, List.getElem?_eq_getElem hk])
    have e : ((⟨g, 0, none⟩ : Addr).add k) = ⟨g, 0 + k, none⟩ := by unfold Addr.add; split <;> simp_all
    rw [e] at this; exact this

theorem ownsRow_empty {w : World} {base : Nat} {e : TypeId} (hb : base ≤ w.heap.size) : (w.alloc (.cells #[] e)).ownsRow base e 1 (.slice (some ⟨w.heap.size, 0, none⟩) 0 0) 0 [] :=
  ⟨rfl, .inr ⟨w.heap.size, 0, #[], rfl, hb, by show (w.heap.push _)[w.heap.size]? = _; simp, Nat.le_refl _, Nat.zero_le _, rfl, rfl⟩⟩

set_option maxHeartbeats 400000 in
theorem list_any (a : Option Addr) (cap : Nat) (xs : List Int) (w : World) (hl : xs.length ≤ 1000) (hx : IntsAt w a xs) :
    Calls Try.prog 37 #[.slice a xs.length cap] w fun e w' => ∃ r, e = .returned r ∧ w'.ownsRow w.heap.size 3 1 r xs.length (intCells xs) ∧ Below w.heap.size w w' := by
  obtain ⟨i0, hi, hz0, hz1, hz2⟩ := info_parts Try.info3
  have hown := Lib.hid (ownsRow_empty (w := w) (base := w.heap.size) (e := 3) (Nat.le_refl _))
  have HX := Lib.hid (hx.below ((Below.refl _ _).alloc (Nat.le_refl _) (.cells #[] 3)))
  clear hx
  cases a with
  | none =>
    have h0 : xs = [] := by
      cases xs with
      | nil => rfl
      | cons x l => obtain ⟨b, off, e, _⟩ := HX.out 0 (by simp); cases e
    subst h0
    go_enter Try.func37, Try.ntmps37
    go_wp2
    go_ret
    exact ⟨_, rfl, hown.out, (Below.refl _ _).alloc (Nat.le_refl _) _⟩
  | some ad =>
    by_cases h0 : xs = []
    · subst h0
      go_enter Try.func37, Try.ntmps37
      go_wp2
      go_ret
      exact ⟨_, rfl, hown.out, (Below.refl _ _).alloc (Nat.le_refl _) _⟩
    · have hp : 0 < xs.length := List.length_pos_iff.2 h0
      obtain ⟨b, off, e, _⟩ := HX.out 0 hp
      simp only [Option.some.injEq] at e
      subst e
      clear h0
      have HN := Lib.hid (intCells_get HX.out)
      go_enter Try.func37, Try.ntmps37
      go_wp2_with (at_builtin; refine wpList_append_own _ rfl _ _ 27 rfl w.heap.size 3 i0 (.int .i64 0) 1 8 Try.underlying27 hi hz0 hz1 hz2 rfl (by decide) _ _ _ rfl hown.out ⟨b, off, none⟩ xs.length cap (intCells xs) rfl ?c2 HN.out (intCells_one _) ?c3 ?c4 ?c5 ?_)
      case c2 => simp [intCells]
      case c3 => unfold maxLen; omega
      case c4 => omega
      case c5 => simp
      intro v' w1 hown' hgrow _
      have HO := Lib.hid hown'; have HG := Lib.hid hgrow
      clear hown' hgrow
      go_wp2
      go_ret
      refine ⟨_, rfl, HO.out, ((Below.refl _ _).alloc (Nat.le_refl _) _).grown HG.out (by simp) ?_⟩
      intro k hk
      simp [Value.ownBlock] at hk
      omega
end Go.Proofs.Ytfiacjdkdjkiiaa
end
section
namespace Go.Proofs.Ytfiacjdkdjkiiaa
open Go.RowKit
set_option linter.unusedVariables false

theorem dot_succ (xs ps : List Int) (k : Nat) (h : k < xs.length) (h' : k < ps.length) : dot (xs.take (k + 1)) ps = dot (xs.take k) ps + xs.getD k 0 * ps.getD k 0 := by
  induction xs generalizing ps k with
  | nil => simp at h
  | cons x xs ih => cases ps with
    | nil => simp at h'
    | cons p ps => cases k with
      | zero => simp [dot]
      | succ k =>
        have := ih ps k (by simpa using h) (by simpa using h')
        simp only [List.take_succ_cons, dot, this, List.getD_cons_succ]; omega
theorem dot_bd (xs ps : List Int) (hx : ∀ x ∈ xs, 0 ≤ x ∧ x ≤ 1000000) (hp : ∀ x ∈ ps, 0 ≤ x ∧ x ≤ 1000000) : 0 ≤ dot xs ps ∧ dot xs ps ≤ 1000000000000 * xs.length := by
  induction xs generalizing ps with
  | nil => cases ps <;> simp [dot]
  | cons x xs ih =>
    cases ps with
    | nil => simp only [dot, List.length_cons]; omega
    | cons p ps =>
      have h1 := ih ps (fun y hy => hx y (by simp [hy])) (fun y hy => hp y (by simp [hy]))
      have hxx := hx x (by simp)
      have hpp := hp p (by simp)
      have h3 := Int.mul_nonneg hxx.1 hpp.1
      have h2 : x * p ≤ 1000000 * 1000000 := Int.le_trans (Int.mul_le_mul_of_nonneg_right hxx.2 hpp.1) (Int.mul_le_mul_of_nonneg_left hpp.2 (by omega))
      simp only [dot, List.length_cons]; omega
theorem mul_bd {x y : Int} (hx : 0 ≤ x ∧ x ≤ 1000000) (hy : 0 ≤ y ∧ y ≤ 1000000) : 0 ≤ x * y ∧ x * y ≤ 1000000000000 :=
  ⟨Int.mul_nonneg hx.1 hy.1, Int.le_trans (Int.mul_le_mul_of_nonneg_right hx.2 hy.1) (Int.mul_le_mul_of_nonneg_left hy.2 (by omega))⟩

set_option maxHeartbeats 400000 in
theorem value_any (a a' : Option Addr) (xs ys : List Int) (cap cap' : Nat) (w : World) (hl : xs.length ≤ 1000) (hle : xs.length ≤ ys.length) (hm : ys.length ≤ 1000)
    (hbx : ∀ x ∈ xs, 0 ≤ x ∧ x ≤ 1000000) (hby : ∀ x ∈ ys, 0 ≤ x ∧ x ≤ 1000000) (hx : IntsAt w a xs) (hy : IntsAt w a' ys) :
    Calls Try.prog 42 #[.slice a xs.length cap, .slice a' ys.length cap'] w fun e w' => e = .returned (.int .i64 (dot xs ys)) ∧ ∃ n, w' = w.drewN n := by
  have HX := Lib.hid hx; have HY := Lib.hid hy; have HBX := Lib.hid hbx; have HBY := Lib.hid hby
  clear hx hy hbx hby
  generalize hn : ys.length = n at *
  generalize hmm : xs.length = m at *
  have HM := Lib.hid hmm; have HN := Lib.hid hn
  clear hn hmm
  go_enter Try.func42, Try.ntmps42
  go_wp2
  go_loopw [5, 6] (fun t i wr => ∃ k q : Nat, k ≤ m ∧ i = .int .i64 k ∧ t = .int .i64 (dot (xs.take k) ys) ∧ wr = w.drewN q) (fun _ i _ => m - (intOf i).toNat)
  case atStart => exact ⟨0, 0, Nat.zero_le _, rfl, by cases ys <;> simp [dot], rfl⟩
  case round =>
    obtain ⟨k, q, hk, rfl, rfl, rfl⟩ := hrel
    have hs := dot_bd (xs.take k) ys (fun x hx => HBX.out x (List.mem_of_mem_take hx)) HBY.out
    have hlk : (xs.take k).length ≤ k := by simp; omega
    have hbd : 0 ≤ dot (xs.take k) ys ∧ dot (xs.take k) ys ≤ 1000000000000000 := by omega
    clear hs hlk
    by_cases hlt : k < m
    · have hkx : k < xs.length := by have := HM.out; omega
      have hky : k < ys.length := by have := HN.out; omega
      have hlt2 : k < n := by omega
      obtain ⟨b, off, rfl, c1⟩ := HX.out k hkx
      obtain ⟨b', off', rfl, c2⟩ := HY.out k hky
      have hpr := mul_bd (HBX.out _ (getD_mem (d := 0) hkx)) (HBY.out _ (getD_mem (d := 0) hky))
      have HE := Lib.hid (dot_succ xs ys k hkx hky)
      clear hkx hky
      generalize xs.getD k 0 = x at *
      generalize ys.getD k 0 = y at *
      generalize dot (xs.take k) ys = s at *
      go_wp2
      go_quiet (fail)
      go_wp2
      go_roundw
      case rel => exact ⟨k + 1, _, by omega, by go_num, by rw [HE.out], rfl⟩
      case measure => simp [intOf]; omega
    · have HE : Hid (dot (xs.take k) ys = dot xs ys) := by
        show dot (xs.take k) ys = dot xs ys
        have := HM.out
        rw [List.take_of_length_le (by omega)]
      go_wp2
      go_ret
      exact ⟨ret_int HE.out, _, rfl⟩

/-- four cells of an array of prices -/
def pad4 (p : List Int) : List Int := [p.getD 0 0, p.getD 1 0, p.getD 2 0, p.getD 3 0]
def arr4 (p : List Int) : Array Value := #[.int .i64 (p.getD 0 0), .int .i64 (p.getD 1 0), .int .i64 (p.getD 2 0), .int .i64 (p.getD 3 0)]
theorem dot_pad (xs p : List Int) (h : xs.length = p.length) (h4 : p.length ≤ 4) : dot xs (pad4 p) = dot xs p := by
  match xs, p, h, h4 with
  | [], [], _, _ => rfl
  | [a], [p], _, _ => rfl
  | [a, b], [p, q], _, _ => rfl
  | [a, b, c], [p, q, r], _, _ => rfl
  | [a, b, c, d], [p, q, r, s], _, _ => rfl
  | _ :: _ :: _ :: _ :: _ :: _, _ :: _ :: _ :: _ :: _ :: _, _, h4 => simp at h4
theorem arr4_cell (p : List Int) (w : World) (T : TypeId) (k : Nat) (h : k < 4) : (w.alloc (.cells (arr4 p) T)).cell? ⟨w.heap.size, k, none⟩ = some (.int .i64 (p.getD k 0)) := by
  match k, h with
  | 0, _ => simp [go_sem, arr4]
  | 1, _ => simp [go_sem, arr4]
  | 2, _ => simp [go_sem, arr4]
  | 3, _ => simp [go_sem, arr4]

set_option maxHeartbeats 400000 in
theorem pvalue_any (a : Option Addr) (xs p : List Int) (cap : Nat) (w : World) (hl : xs.length ≤ 4) 
    (hbx : ∀ x ∈ xs, 0 ≤ x ∧ x ≤ 1000000) (hby : ∀ x ∈ pad4 p, 0 ≤ x ∧ x ≤ 1000000) (hx : IntsAt w a xs) :
    Calls Try.prog 81 #[.agg (arr4 p), .slice a xs.length cap] w fun e w' => e = .returned (.int .i64 (dot xs (pad4 p))) ∧ Below w.heap.size w w' := by
  have hbox : Below w.heap.size w (w.alloc (.cells (arr4 p) 139)) := (Below.refl _ _).alloc (Nat.le_refl _) _
  have HX := Lib.hid (hx.below hbox); have HBX := Lib.hid hbx; have HBY := Lib.hid hby
  have HB := Lib.hid hbox
  have HC := Lib.hid (arr4_cell p w 139)
  clear hx hbx hby hbox
  generalize hmm : xs.length = m at *
  have HM := Lib.hid hmm
  clear hmm
  go_enter Try.func81, Try.ntmps81
  go_wp2
  go_loop [4, 5, 6, 9] (fun t _ _ i => ∃ k : Nat, k ≤ m ∧ i = .int .i64 k ∧ t = .int .i64 (dot (xs.take k) (pad4 p))) (fun _ _ _ i => m - (intOf i).toNat)
  case atStart => exact ⟨0, Nat.zero_le _, rfl, by simp [dot]⟩
  case round =>
    obtain ⟨k, hk, rfl, rfl⟩ := hrel
    have hs := dot_bd (xs.take k) (pad4 p) (fun x hx => HBX.out x (List.mem_of_mem_take hx)) HBY.out
    have hlk : (xs.take k).length ≤ k := by simp; omega
    have hbd : 0 ≤ dot (xs.take k) (pad4 p) ∧ dot (xs.take k) (pad4 p) ≤ 1000000000000000 := by omega
    clear hs hlk
    by_cases hlt : k < m
    · have hkx : k < xs.length := by have := HM.out; omega
      have hky : k < (pad4 p).length := by simp [pad4]; omega
      have hk4 : k < 4 := by omega
      have hk4' : (k : Int) < 4 := by omega
      have hk0 : (0 : Int) ≤ (k : Int) := by omega
      obtain ⟨b, off, rfl, c1⟩ := HX.out k hkx
      have c2 := HC.out k hk4
      have e2 : (pad4 p).getD k 0 = p.getD k 0 := by
        match k, hk4 with
        | 0, _ => rfl
        | 1, _ => rfl
        | 2, _ => rfl
        | 3, _ => rfl
      have hpr := mul_bd (HBX.out _ (getD_mem (d := 0) hkx)) (HBY.out _ (getD_mem (d := 0) hky))
      have HE := Lib.hid (dot_succ xs (pad4 p) k hkx hky)
      rw [e2] at HE hpr
      clear hkx hky e2
      generalize xs.getD k 0 = x at *
      generalize p.getD k 0 = y at *
      generalize dot (xs.take k) (pad4 p) = s at *
      go_wp2
      go_round
      case rel => exact ⟨k + 1, by omega, by go_num, by rw [HE.out]⟩
      case measure => simp [intOf]; omega
    · have HE : Hid (dot (xs.take k) (pad4 p) = dot xs (pad4 p)) := by
        show dot (xs.take k) (pad4 p) = dot xs (pad4 p)
        have := HM.out
        rw [List.take_of_length_le (by omega)]
      go_wp2
      go_ret
      exact ⟨ret_int HE.out, HB.out⟩

theorem after_any (x y z : Int) (w : World) (h : -1000000000 ≤ x ∧ x ≤ 1000000000) (h' : -1000000000 ≤ z ∧ z ≤ 1000000000) :
    Calls Try.prog 57 #[.agg #[.int .i64 x, .int .i64 y, .int .i64 z]] w fun e w' => e = .returned (.int .i64 (x - z)) ∧ Below w.heap.size w w' := by
  go_enter Try.func57, Try.ntmps57
  go_wp2
  go_ret
  exact ⟨rfl, (Below.refl _ _).alloc (Nat.le_refl _) _⟩
theorem low_any (x y : Int) (w : World) : Calls Try.prog 92 #[.agg #[.int .i64 x, .int .i64 y]] w fun e w' => e = .returned (.int .i64 x) ∧ Below w.heap.size w w' := by
  go_enter Try.func92, Try.ntmps92
  go_wp2
  go_ret
  exact ⟨rfl, (Below.refl _ _).alloc (Nat.le_refl _) _⟩
theorem high_any (x y : Int) (w : World) : Calls Try.prog 93 #[.agg #[.int .i64 x, .int .i64 y]] w fun e w' => e = .returned (.int .i64 y) ∧ Below w.heap.size w w' := by
  go_enter Try.func93, Try.ntmps93
  go_wp2
  go_ret
  exact ⟨rfl, (Below.refl _ _).alloc (Nat.le_refl _) _⟩

/-- whether proceeds restore a margin -/
def resB (debt value margin pro : Int) : Bool := decide (debt ≤ pro ∨ (debt - pro) * (100 + margin) ≤ 100 * (value - pro))
theorem prod_bd {x y : Int} (hx : -10000000 ≤ x ∧ x ≤ 10000000) (hy : 0 ≤ y ∧ y ≤ 1000) : -10000000000 ≤ x * y ∧ x * y ≤ 10000000000 := by
  have h1 := Int.mul_le_mul_of_nonneg_right hx.1 hy.1
  have h2 := Int.mul_le_mul_of_nonneg_right hx.2 hy.1
  omega
theorem restores_any (debt value call margin pro : Int) (w : World) (h1 : 0 ≤ debt ∧ debt ≤ 1000000) (h2 : 0 ≤ value ∧ value ≤ 1000000) (h3 : 0 ≤ pro ∧ pro ≤ 1000000) (h4 : 0 ≤ margin ∧ margin ≤ 100) :
    Calls Try.prog 80 #[.agg #[.int .i64 debt, .int .i64 value, .int .i64 call], .int .i64 margin, .int .i64 pro] w fun e w' => e = .returned (.bool (resB debt value margin pro)) ∧ Below w.heap.size w w' := by
  have hp := prod_bd (x := debt - pro) (y := 100 + margin) (by omega) (by omega)
  by_cases g : debt ≤ pro
  · have HF : Hid (resB debt value margin pro = true) := by show resB debt value margin pro = true; simp [resB, g]
    go_enter Try.func80, Try.ntmps80
    go_wp2
    go_ret
    exact ⟨ret_bool HF.out.symm, (Below.refl _ _).alloc (Nat.le_refl _) _⟩
  · by_cases g2 : (debt - pro) * (100 + margin) ≤ 100 * (value - pro)
    · have HF : Hid (resB debt value margin pro = true) := by show resB debt value margin pro = true; simp [resB, g2]
      go_enter Try.func80, Try.ntmps80
      go_wp2
      go_ret
      exact ⟨ret_bool HF.out.symm, (Below.refl _ _).alloc (Nat.le_refl _) _⟩
    · have HF : Hid (resB debt value margin pro = false) := by show resB debt value margin pro = false; simp [resB, g2]; omega
      go_enter Try.func80, Try.ntmps80
      go_wp2
      go_ret
      exact ⟨ret_bool HF.out.symm, (Below.refl _ _).alloc (Nat.le_refl _) _⟩
theorem Restores_any (debt value margin pro : Int) (w : World) (h1 : 0 ≤ debt ∧ debt ≤ 1000000) (h2 : 0 ≤ value ∧ value ≤ 1000000) (h3 : 0 ≤ pro ∧ pro ≤ 1000000) (h4 : 0 ≤ margin ∧ margin ≤ 100) :
    Calls Try.prog 51 #[.int .i64 debt, .int .i64 value, .int .i64 margin, .int .i64 pro] w fun e w' => e = .returned (.bool (resB debt value margin pro)) ∧ w = w' := by
  have hp := prod_bd (x := debt - pro) (y := 100 + margin) (by omega) (by omega)
  by_cases g : debt ≤ pro
  · have HF : Hid (resB debt value margin pro = true) := by show resB debt value margin pro = true; simp [resB, g]
    go_enter Try.func51, Try.ntmps51
    go_wp2
    go_ret
    exact ⟨ret_bool HF.out.symm, rfl⟩
  · by_cases g2 : (debt - pro) * (100 + margin) ≤ 100 * (value - pro)
    · have HF : Hid (resB debt value margin pro = true) := by show resB debt value margin pro = true; simp [resB, g2]
      go_enter Try.func51, Try.ntmps51
      go_wp2
      go_ret
      exact ⟨ret_bool HF.out.symm, rfl⟩
    · have HF : Hid (resB debt value margin pro = false) := by show resB debt value margin pro = false; simp [resB, g2]; omega
      go_enter Try.func51, Try.ntmps51
      go_wp2
      go_ret
      exact ⟨ret_bool HF.out.symm, rfl⟩

/-- a spot of a bank -/
def spotB (nl nd : Nat) (loan day : Int) : Bool := inB loan 0 ((nl : Int) - 1) && inB day 0 ((nd : Int) - 1)
theorem spot_any (st : Int) (da la : Option Addr) (dl dc ll lc : Nat) (loan day : Int) (w : World) (hd : dl ≤ 1000) (hl : ll ≤ 1000) :
    Calls Try.prog 64 #[.agg #[.int .i64 st, .slice da dl dc, .slice la ll lc], .agg #[.int .i64 loan, .int .i64 day]] w fun e w' => e = .returned (.bool (spotB ll dl loan day)) ∧ Below w.heap.size w w' := by
  cases g1 : inB loan 0 ((ll : Int) - 1)
  · have HF : Hid (spotB ll dl loan day = false) := by show spotB ll dl loan day = false; simp [spotB, g1]
    have G1 := Lib.hid g1
    clear g1
    go_enter Try.func64, Try.ntmps64
    go_wp2_with (go_at_call 69; refine (within_false _ _ _ _ G1.out).mono ?_; rintro e w' ⟨rfl, rfl⟩)
    go_ret
    exact ⟨ret_bool HF.out.symm, ((Below.refl _ _).alloc (Nat.le_refl _) _).alloc (by simp) _⟩
  · have HF : Hid (inB day 0 ((dl : Int) - 1) = spotB ll dl loan day) := by show inB day 0 ((dl : Int) - 1) = spotB ll dl loan day; simp [spotB, g1]
    have G1 := Lib.hid g1
    clear g1
    go_enter Try.func64, Try.ntmps64
    go_wp2_with fail
    refine (within_true _ _ _ _ G1.out).mono ?_
    rintro e w' ⟨rfl, rfl⟩
    go_wp2_with fail
    refine (within_any _ _ _ _).mono ?_
    rintro e w' ⟨rfl, rfl⟩
    go_wp2
    go_ret
    exact ⟨ret_bool HF.out, ((Below.refl _ _).alloc (Nat.le_refl _) _).alloc (by simp) _⟩

theorem lawfault_any (da la : Option Addr) (dc lc : Nat) (b : BankD) (w : World) (hD : DaysAt w da b.days) (hL : LoansAt w la b.loans) (hdl : b.days.length ≤ 1000) (hll : b.loans.length ≤ 1000) :
    Calls Try.prog 22 #[.agg #[.int .i64 b.stocks, .slice da b.days.length dc, .slice la b.loans.length lc]] w fun e w' => e = .returned (.int .i64 (faultN b)) ∧ Below w.heap.size w w' := by
  have hbox : Below w.heap.size w (w.alloc (.cells #[.int .i64 b.stocks, .slice da b.days.length dc, .slice la b.loans.length lc] 25)) := (Below.refl _ _).alloc (Nat.le_refl _) _
  have HD := Lib.hid (hD.below hbox); have HL := Lib.hid (hL.below hbox); have HB := Lib.hid hbox
  clear hD hL hbox
  go_enter Try.func22, Try.ntmps22
  go_wp2_with fail
  refine (fault_any _ _ _ _ _ _ HD.out HL.out hdl hll).mono ?_
  rintro e w' ⟨rfl, hb⟩
  have HB2 := Lib.hid hb
  clear hb
  go_wp2
  go_ret
  exact ⟨rfl, HB.out.trans (HB2.out.mono (by simp))⟩

theorem lawin_any (n x y : Int) (w : World) : Calls Try.prog 41 #[.int .i64 n, .agg #[.int .i64 x, .int .i64 y]] w fun e w' => e = .returned (.bool (inB n x y)) ∧ Below w.heap.size w w' := by
  by_cases g1 : x ≤ n
  · by_cases g2 : n ≤ y
    · have HF : Hid (inB n x y = true) := by show inB n x y = true; simp [inB, g1, g2]
      go_enter Try.func41, Try.ntmps41
      go_wp2
      go_ret
      exact ⟨ret_bool HF.out.symm, (Below.refl _ _).alloc (Nat.le_refl _) _⟩
    · have HF : Hid (inB n x y = false) := by show inB n x y = false; simp [inB]; omega
      go_enter Try.func41, Try.ntmps41
      go_wp2
      go_ret
      exact ⟨ret_bool HF.out.symm, (Below.refl _ _).alloc (Nat.le_refl _) _⟩
  · have HF : Hid (inB n x y = false) := by show inB n x y = false; simp [inB]; omega
    go_enter Try.func41, Try.ntmps41
    go_wp2
    go_ret
    exact ⟨ret_bool HF.out.symm, (Below.refl _ _).alloc (Nat.le_refl _) _⟩
end Go.Proofs.Ytfiacjdkdjkiiaa
end
section
namespace Go.Proofs.Ytfiacjdkdjkiiaa
open Go.RowKit
set_option linter.unusedVariables false
set_option linter.unusedSimpArgs false
theorem key_ok (e : Bool) (a b : Int) (w : World) : (Instr.checkKey e 10000 120 (.agg #[.int .i64 a, .int .i64 b])).run Try.prog w = .ok () w := by kernel_rfl
theorem zero_st (w : World) : (zeroValue 117).run Try.prog w = .ok (.agg #[.int .i64 0, .int .i64 0, .int .i64 0]) w := by kernel_rfl
theorem eq_spot (a b c d : Int) (w : World) : (Op.equal 120 (.agg #[.int .i64 a, .int .i64 b]) (.agg #[.int .i64 c, .int .i64 d])).run Try.prog w = .ok (a == c && b == d) w := by
  have h1 : Try.prog.stoodInHeld 120 = false := by kernel_rfl
  have h2 : Try.prog.underlying 120 = some (.struct (Try.prog.fieldsOf 120)) := by kernel_rfl
  have hfo : (Try.prog.fieldsOf 120).toList = (match Try.prog.underlying 120 with | some (.struct fs) => fs.toList | _ => []) := by kernel_rfl
  unfold Op.equal Op.maxDepth
  rw [run_equalIn_struct w 9999 120 _ _ h2 h1, hfo, Try.underlying120]
  have p1 : ∀ (x y : Value) (w : World), (part 3 #[x, y] 0).run Try.prog w = .ok x w := fun x y w => by kernel_rfl
  have p2 : ∀ (x y : Value) (w : World), (part 3 #[x, y] 1).run Try.prog w = .ok y w := fun x y w => by kernel_rfl
  have q : ∀ (a b : Int) (w : World), (Op.equalIn 9999 3 (.int .i64 a) (.int .i64 b)).run Try.prog w = .ok (a == b) w := fun a b w => run_equalIn_int w 9998 3 .i64 .i64 a b Try.underlying3
  cases h1 : (a == c) <;> cases h2 : (b == d) <;> simp [Op.eqFields, p1, p2, q, h1, h2]
theorem neq_arr (p q : List Int) (w : World) : (binOp .neq 139 (.agg (arr4 p)) (.agg (arr4 q))).run Try.prog w = .ok (.bool (!decide (pad4 p = pad4 q))) w := by
  obtain ⟨i0, hi, hz0, hz1, hz2⟩ := info_parts Try.info3
  have p0 : ∀ (a b c d : Value) (w : World), (part 3 #[a, b, c, d] (0 * Try.prog.cellsOf 3)).run Try.prog w = .ok a w := fun a b c d w => by kernel_rfl
  have p1 : ∀ (a b c d : Value) (w : World), (part 3 #[a, b, c, d] (1 * Try.prog.cellsOf 3)).run Try.prog w = .ok b w := fun a b c d w => by kernel_rfl
  have p2 : ∀ (a b c d : Value) (w : World), (part 3 #[a, b, c, d] (2 * Try.prog.cellsOf 3)).run Try.prog w = .ok c w := fun a b c d w => by kernel_rfl
  have p3 : ∀ (a b c d : Value) (w : World), (part 3 #[a, b, c, d] (3 * Try.prog.cellsOf 3)).run Try.prog w = .ok d w := fun a b c d w => by kernel_rfl
  have e : ∀ (a b : Int) (w : World), (Op.equalIn 9999 3 (.int .i64 a) (.int .i64 b)).run Try.prog w = .ok (a == b) w := fun a b w => run_equalIn_int w 9998 3 .i64 .i64 a b Try.underlying3
  have hr : List.range 4 = [0, 1, 2, 3] := by decide
  have h : (Op.equalIn 10000 139 (.agg (arr4 p)) (.agg (arr4 q))).run Try.prog w = .ok (decide (pad4 p = pad4 q)) w := by
    rw [run_equalIn_array w 9999 (arr4 p) (arr4 q) Try.underlying139 hi, hr]
    unfold arr4 pad4
    generalize p.getD 0 0 = a0
    generalize p.getD 1 0 = a1
    generalize p.getD 2 0 = a2
    generalize p.getD 3 0 = a3
    generalize q.getD 0 0 = b0
    generalize q.getD 1 0 = b1
    generalize q.getD 2 0 = b2
    generalize q.getD 3 0 = b3
    simp only [Op.eqItems, Sem.run_bind, p0, p1, p2, p3, e, Result.andThen_ok, Sem.run_ite, Sem.run_pure]
    by_cases h0 : a0 = b0 <;> by_cases h1 : a1 = b1 <;> by_cases h2 : a2 = b2 <;> by_cases h3 : a3 = b3 <;> simp [h0, h1, h2, h3]
  simp only [binOp]
  simp [Op.equal, Op.maxDepth, h]
def stV (s : St) : Value := .agg #[.int .i64 s.before, .int .i64 s.value, .int .i64 s.call]
def keyV (i n : Nat) : Value := .agg #[.int .i64 i, .int .i64 n]
end Go.Proofs.Ytfiacjdkdjkiiaa
end
