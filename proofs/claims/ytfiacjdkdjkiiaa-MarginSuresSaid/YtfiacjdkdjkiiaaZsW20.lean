/- The walks over all[Record] and Odd. -/
import Derived.Test.YtfiacjdkdjkiiaaZsPy
namespace Go.Proofs.Ytfiacjdkdjkiiaa
open Go.RowKit
set_option linter.unusedVariables false
set_option linter.unusedSimpArgs false
attribute [local go_sem ↓] Go.wp_at_zero Go.wp_at_succ

structure RecD where
  loan : Int
  day : Int
  pence : Int
  deriving Inhabited, DecidableEq
def RecsAt (w : World) (a : Option Addr) (rs : List RecD) : Prop :=
  ∀ k, k < rs.length → ∃ b off, a = some ⟨b, off, none⟩ ∧ w.cell? ⟨b, off + k * 3, none⟩ = some (.int .i64 (rs.getD k default).loan) ∧
    w.cell? ⟨b, off + k * 3 + 1, none⟩ = some (.int .i64 (rs.getD k default).day) ∧ w.cell? ⟨b, off + k * 3 + 2, none⟩ = some (.int .i64 (rs.getD k default).pence)
theorem RecsAt.below {w w' : World} {a : Option Addr} {xs : List RecD} (h : RecsAt w a xs) (hb : Below w.heap.size w w') : RecsAt w' a xs := fun k hk => by
  obtain ⟨b, off, e, c, d, f⟩ := h k hk
  exact ⟨b, off, e, cell_below hb c, cell_below hb d, cell_below hb f⟩

def recB (ll dl : Nat) (r : RecD) : Bool := spotB ll dl r.loan r.day
theorem odd1_any (st : Int) (da la : Option Addr) (dl dc ll lc nb : Nat) (x : RecD) (w : World) (hx : w.heap[nb]? = some (.cells #[.int .i64 st, .slice da dl dc, .slice la ll lc] 38 (0, 0))) (hd : dl ≤ 1000) (hl : ll ≤ 1000) :
    Calls Try.prog 71 #[.agg #[.int .i64 x.loan, .int .i64 x.day, .int .i64 x.pence], .pointer (some ⟨nb, 0, none⟩)] w fun e w' => e = .returned (.bool (recB ll dl x)) ∧ Below w.heap.size w w' := by
  have u0 : w.cell? ⟨nb, 0, none⟩ = some (.int .i64 st) := (cell_of_heap hx).trans rfl
  have u1 : w.cell? ⟨nb, 1, none⟩ = some (.slice da dl dc) := (cell_of_heap hx).trans rfl
  have u2 : w.cell? ⟨nb, 2, none⟩ = some (.slice la ll lc) := (cell_of_heap hx).trans rfl
  have ln := heap_lt hx
  clear hx
  go_enter Try.func71, Try.ntmps71
  go_wp2_with fail
  refine (spot_any st da la dl dc ll lc x.loan x.day _ hd hl).mono ?_
  rintro e w' ⟨rfl, hb⟩
  have HB := Lib.hid hb
  clear hb
  go_wp2
  go_ret
  exact ⟨rfl, ((Below.refl _ _).alloc (Nat.le_refl _) _).trans (HB.out.mono (by simp))⟩

theorem allC_cl (st : Int) (da la : Option Addr) (dl dc ll lc nb : Nat) (x : RecD) (fb : Nat) (w : World) (hf : w.cell? ⟨fb, 0, none⟩ = some (.func (.func 71) #[] #[.pointer (some ⟨nb, 0, none⟩)])) (hx : w.heap[nb]? = some (.cells #[.int .i64 st, .slice da dl dc, .slice la ll lc] 38 (0, 0))) (hd : dl ≤ 1000) (hl2 : ll ≤ 1000) :
    Calls Try.prog 96 #[.agg #[.int .i64 x.loan, .int .i64 x.day, .int .i64 x.pence], .pointer (some ⟨fb, 0, none⟩)] w fun e w' => e = .returned (.bool (!recB ll dl x)) ∧ Below w.heap.size w w' := by
  have hlt : fb < w.heap.size := World.block_lt_of_cell? _ _ hf
  have HX := Lib.hid hx
  have HD2 := Lib.hid hd
  have HL2 := Lib.hid hl2
  clear hx hd hl2
  go_enter Try.func96, Try.ntmps96
  go_wp2_with fail
  refine (odd1_any st da la dl dc ll lc nb _ _ (heap_of_below ((Below.refl _ _).alloc (Nat.le_refl _) _) HX.out) HD2.out HL2.out).mono ?_
  rintro e w' ⟨rfl, hb⟩
  have HB := Lib.hid hb
  clear hb
  go_wp2
  go_ret
  exact ⟨rfl, ((Below.refl _ _).alloc (Nat.le_refl _) _).trans (HB.out.mono (by simp))⟩

set_option maxHeartbeats 400000 in
theorem indexC_any (st : Int) (da la : Option Addr) (dl dc ll lc nb : Nat) (a : Option Addr) (cap fb : Nat) (rs : List RecD) (w : World) (hl : rs.length ≤ 1000) (hR : RecsAt w a rs) (hf : w.cell? ⟨fb, 0, none⟩ = some (.func (.func 71) #[] #[.pointer (some ⟨nb, 0, none⟩)])) (hx : w.heap[nb]? = some (.cells #[.int .i64 st, .slice da dl dc, .slice la ll lc] 38 (0, 0))) (hd : dl ≤ 1000) (hl2 : ll ≤ 1000) :
    Calls Try.prog 108 #[.slice a rs.length cap, .func (.func 96) #[] #[.pointer (some ⟨fb, 0, none⟩)]] w fun e w' => e = .returned (.int .i64 (firstBad (recB ll dl ·) rs 0)) ∧ Below w.heap.size w w' := by
  have HR := Lib.hid hR; have HF := Lib.hid hf
  have HX := Lib.hid hx
  have HD2 := Lib.hid hd
  have HL2 := Lib.hid hl2
  clear hx hd hl2
  clear hR hf
  generalize hn : rs.length = n at *
  have HN := Lib.hid hn
  clear hn
  go_enter Try.func108, Try.ntmps108
  go_wp2
  go_loopw [8] (fun i wr => ∃ k : Nat, k ≤ n ∧ i = .int .i64 k ∧ (∀ j, j < k → recB ll dl (rs.getD j default) = true) ∧ Below w.heap.size w wr) (fun i _ => n - (intOf i).toNat)
  case atStart => exact ⟨0, Nat.zero_le _, rfl, fun _ h => absurd h (Nat.not_lt_zero _), Below.refl _ _⟩
  case round =>
    obtain ⟨k, hk, rfl, hall, hbel⟩ := hrel
    have HA := Lib.hid hall; have HB := Lib.hid hbel
    clear hall hbel
    by_cases hlt : k < n
    · have hkn : k < rs.length := by have := HN.out; omega
      have hcf := cell_below HB.out HF.out
      have HCF := Lib.hid hcf
      obtain ⟨b, off, rfl, c1, c2, c3⟩ := (HR.out.below HB.out) k hkn
      have HKN := Lib.hid hkn
      clear hkn hcf
      generalize hr : rs.getD k default = r at *
      have HRR := Lib.hid hr
      clear hr
      cases g : recB ll dl r
      · have HG : Hid (firstBad (recB ll dl ·) rs 0 = (k : Int)) := by
          have := firstBad_at (d := default) (recB ll dl ·) rs k 0 HA.out HKN.out (by show recB ll dl (rs.getD k default) = false; rw [HRR.out]; exact g)
          show firstBad (recB ll dl ·) rs 0 = (k : Int)
          simpa using this
        have G := Lib.hid g
        clear g
        go_wp2_with fail
        refine (allC_cl st da la dl dc ll lc nb _ _ _ HCF.out (heap_of_below HB.out HX.out) HD2.out HL2.out).mono ?_
        rintro e w' ⟨rfl, hb⟩
        rw [G.out]
        have HB2 := Lib.hid hb
        clear hb
        go_wp2
        go_ret
        exact ⟨ret_int HG.out.symm, HB.out.trans (HB2.out.mono HB.out.size)⟩
      · have G := Lib.hid g
        clear g
        go_wp2_with fail
        refine (allC_cl st da la dl dc ll lc nb _ _ _ HCF.out (heap_of_below HB.out HX.out) HD2.out HL2.out).mono ?_
        rintro e w' ⟨rfl, hb⟩
        rw [G.out]
        have HB2 := Lib.hid hb
        clear hb
        go_wp2
        go_roundw
        case rel =>
          refine ⟨k + 1, by omega, by go_num, fun j hj => ?_, HB.out.trans (HB2.out.mono HB.out.size)⟩
          by_cases hjs : j < k
          · exact HA.out j hjs
          · have : j = k := by omega
            have h5 := G.out
            rw [← HRR.out] at h5
            rw [this]; exact h5
        case measure => simp [intOf]; omega
    · have HG : Hid (firstBad (recB ll dl ·) rs 0 = -1) := firstBad_none (d := default) (recB ll dl ·) rs k 0 HA.out (by have := HN.out; omega)
      go_wp2
      go_ret
      exact ⟨ret_int HG.out.symm, HB.out⟩

theorem allC_any (st : Int) (da la : Option Addr) (dl dc ll lc nb : Nat) (a : Option Addr) (cap : Nat) (rs : List RecD) (w : World) (hl : rs.length ≤ 1000) (hR : RecsAt w a rs) (hx : w.heap[nb]? = some (.cells #[.int .i64 st, .slice da dl dc, .slice la ll lc] 38 (0, 0))) (hd : dl ≤ 1000) (hl2 : ll ≤ 1000) :
    Calls Try.prog 70 #[.slice a rs.length cap, .func (.func 71) #[] #[.pointer (some ⟨nb, 0, none⟩)]] w fun e w' => e = .returned (.bool (rs.all (recB ll dl ·))) ∧ Below w.heap.size w w' := by
  have HR := Lib.hid hR
  have HX := Lib.hid hx
  have HD2 := Lib.hid hd
  have HL2 := Lib.hid hl2
  clear hx hd hl2
  clear hR
  have HL := Lib.hid hl
  go_enter Try.func70, Try.ntmps70
  go_wp2_with (first | (go_at_call 95; go_in) | fail)
  refine (indexC_any st da la dl dc ll lc nb _ _ _ _ _ HL.out (HR.out.below ((Below.refl _ _).alloc (Nat.le_refl _) _)) (by simp [go_sem]) (heap_of_below ((Below.refl _ _).alloc (Nat.le_refl _) _) HX.out) HD2.out HL2.out).mono ?_
  rintro e w' ⟨rfl, hb⟩
  have HB := Lib.hid hb
  clear hb
  go_wp2
  go_ret
  exact ⟨ret_bool (firstBad_ge _ _ _), ((Below.refl _ _).alloc (Nat.le_refl _) _).trans (HB.out.mono (by simp))⟩

def oddN (b : BankD) (l : List RecD) (k : Nat) : List Int := ((List.range k).filter fun i => !inB (l.getD i default).pence (callsN b (l.getD i default).loan.toNat (l.getD i default).day.toNat).lo (callsN b (l.getD i default).loan.toNat (l.getD i default).day.toNat).hi).map fun i : Nat => (i : Int)
theorem oddN_succ (b : BankD) (l : List RecD) (k : Nat) (x : Bool) (h : inB (l.getD k default).pence (callsN b (l.getD k default).loan.toNat (l.getD k default).day.toNat).lo (callsN b (l.getD k default).loan.toNat (l.getD k default).day.toNat).hi = x) :
    oddN b l (k + 1) = oddN b l k ++ if x then [] else [(k : Int)] := by
  unfold oddN; rw [List.range_succ, List.filter_append, List.map_append]
  congr 1
  cases x <;> simp_all
theorem oddN_len (b : BankD) (l : List RecD) (k : Nat) : (oddN b l k).length ≤ k := by
  unfold oddN; rw [List.length_map]; exact Nat.le_trans (List.length_filter_le _ _) (by simp)
def spotsB (b : BankD) (l : List RecD) : Bool := l.all (recB b.loans.length b.days.length ·)

theorem odd_bad (bd : BankD) (da la : Option Addr) (dc lc : Nat) (ra : Option Addr) (rc : Nat) (l : List RecD) (w : World) (hB : BankAt w da la bd) (hS : Short bd) (hf : faultN bd ≠ 0) :
    Calls Try.prog 35 #[.agg #[.int .i64 bd.stocks, .slice da bd.days.length dc, .slice la bd.loans.length lc], .slice ra l.length rc] w fun e w' => e = .returned (.tuple #[.slice none 0 0, .int .i64 (faultN bd)]) ∧ Below w.heap.size w w' := by
  have hbox : Below w.heap.size w (w.alloc (.cells #[.int .i64 bd.stocks, .slice da bd.days.length dc, .slice la bd.loans.length lc] 38)) := (Below.refl _ _).alloc (Nat.le_refl _) _
  have HBK := Lib.hid (hB.below hbox)
  have HBX := Lib.hid hbox
  have HB0 := Lib.hid hB
  have HSH := Lib.hid hS
  clear hbox hB hS
  go_enter Try.func35, Try.ntmps35
  go_wp2_with fail
  refine (check_any da la dc lc bd _ HBK.out HSH.out).mono ?_
  rintro e w1 ⟨rfl, hb1⟩
  have HB1 := Lib.hid hb1
  have e1 : (faultN bd != 0) = true := by simpa using hf
  clear hb1 hf
  go_wp2
  go_ret2
  exact ⟨rfl, HBX.out.trans (HB1.out.mono (by simp))⟩

theorem odd_range (bd : BankD) (da la : Option Addr) (dc lc : Nat) (ra : Option Addr) (rc : Nat) (l : List RecD) (w : World) (hB : BankAt w da la bd) (hS : Short bd) (hf : faultN bd = 0) (hl9 : l.length ≤ 1000) (hR : RecsAt w ra l) (hr : spotsB bd l = false) :
    Calls Try.prog 35 #[.agg #[.int .i64 bd.stocks, .slice da bd.days.length dc, .slice la bd.loans.length lc], .slice ra l.length rc] w fun e w' => e = .returned (.tuple #[.slice none 0 0, .int .i64 2]) ∧ Below w.heap.size w w' := by
  have HRC := Lib.hid hR; have HR := Lib.hid hr
  clear hR hr
  have hbox : Below w.heap.size w (w.alloc (.cells #[.int .i64 bd.stocks, .slice da bd.days.length dc, .slice la bd.loans.length lc] 38)) := (Below.refl _ _).alloc (Nat.le_refl _) _
  have HBK := Lib.hid (hB.below hbox)
  have HBX := Lib.hid hbox
  have HB0 := Lib.hid hB
  have HSH := Lib.hid hS
  clear hbox hB hS
  go_enter Try.func35, Try.ntmps35
  go_wp2_with fail
  refine (check_any da la dc lc bd _ HBK.out HSH.out).mono ?_
  rintro e w1 ⟨rfl, hb1⟩
  rw [hf]
  have HB1 := Lib.hid (HBX.out.trans (hb1.mono (by simp)))
  have hw1 : w.heap.size + 1 ≤ w1.heap.size := by have := hb1.size; simpa using this
  have hx0 : w1.heap[w.heap.size]? = some (.cells #[.int .i64 bd.stocks, .slice da bd.days.length dc, .slice la bd.loans.length lc] 38 (0, 0)) := heap_of_below hb1 (heap_alloc_new w _)
  have HX0 := Lib.hid hx0
  have u0 : w1.cell? ⟨w.heap.size, 0, none⟩ = some (.int .i64 bd.stocks) := (cell_of_heap hx0).trans rfl
  have u1 : w1.cell? ⟨w.heap.size, 1, none⟩ = some (.slice da bd.days.length dc) := (cell_of_heap hx0).trans rfl
  have u2 : w1.cell? ⟨w.heap.size, 2, none⟩ = some (.slice la bd.loans.length lc) := (cell_of_heap hx0).trans rfl
  clear hb1 hx0
  have hv := valid_of hf
  have HV := Lib.hid hv
  obtain ⟨hd1, hd2⟩ := hv.days
  have hl1 := hv.loans
  have HF := Lib.hid hf
  clear hf hv
  go_wp2_with fail
  refine (allC_any bd.stocks da la bd.days.length dc bd.loans.length lc w.heap.size ra rc l _ hl9 (HRC.out.below HB1.out) HX0.out (by omega) (by omega)).mono ?_
  rintro e w2 ⟨rfl, hb2⟩
  rw [show l.all (recB bd.loans.length bd.days.length ·) = false from HR.out]
  have HB2 := Lib.hid hb2
  clear hb2
  go_wp2
  go_ret2
  exact ⟨rfl, HB1.out.trans (HB2.out.mono (by omega))⟩
set_option maxRecDepth 100000 in
set_option maxHeartbeats 2000000 in
theorem odd_ok (bd : BankD) (da la : Option Addr) (dc lc : Nat) (ra : Option Addr) (rc : Nat) (l : List RecD) (w : World) (hB : BankAt w da la bd) (hS : Short bd) (hf : faultN bd = 0) (hl9 : l.length ≤ 1000) (hR : RecsAt w ra l) (hr : spotsB bd l = true) (hdc : bd.days.length ≤ dc) :
    Calls Try.prog 35 #[.agg #[.int .i64 bd.stocks, .slice da bd.days.length dc, .slice la bd.loans.length lc], .slice ra l.length rc] w fun e w' => ∃ a c, e = .returned (.tuple #[.slice a (oddN bd l l.length).length c, .int .i64 0]) ∧ IntsAt w' a (oddN bd l l.length) ∧ (∀ b off sp, a = some ⟨b, off, sp⟩ → w.heap.size ≤ b) ∧ Below w.heap.size w w' := by
  have HDC := Lib.hid hdc
  have HRC := Lib.hid hR; have HR := Lib.hid hr
  clear hR hr
  have hbox : Below w.heap.size w (w.alloc (.cells #[.int .i64 bd.stocks, .slice da bd.days.length dc, .slice la bd.loans.length lc] 38)) := (Below.refl _ _).alloc (Nat.le_refl _) _
  have HBK := Lib.hid (hB.below hbox)
  have HBX := Lib.hid hbox
  have HB0 := Lib.hid hB
  have HSH := Lib.hid hS
  clear hbox hB hS
  go_enter Try.func35, Try.ntmps35
  go_wp2_with fail
  refine (check_any da la dc lc bd _ HBK.out HSH.out).mono ?_
  rintro e w1 ⟨rfl, hb1⟩
  rw [hf]
  have HB1 := Lib.hid (HBX.out.trans (hb1.mono (by simp)))
  have hw1 : w.heap.size + 1 ≤ w1.heap.size := by have := hb1.size; simpa using this
  have hx0 : w1.heap[w.heap.size]? = some (.cells #[.int .i64 bd.stocks, .slice da bd.days.length dc, .slice la bd.loans.length lc] 38 (0, 0)) := heap_of_below hb1 (heap_alloc_new w _)
  have HX0 := Lib.hid hx0
  have u0 : w1.cell? ⟨w.heap.size, 0, none⟩ = some (.int .i64 bd.stocks) := (cell_of_heap hx0).trans rfl
  have u1 : w1.cell? ⟨w.heap.size, 1, none⟩ = some (.slice da bd.days.length dc) := (cell_of_heap hx0).trans rfl
  have u2 : w1.cell? ⟨w.heap.size, 2, none⟩ = some (.slice la bd.loans.length lc) := (cell_of_heap hx0).trans rfl
  clear hb1 hx0
  have hv := valid_of hf
  have HV := Lib.hid hv
  obtain ⟨hd1, hd2⟩ := hv.days
  have hl1 := hv.loans
  have HF := Lib.hid hf
  clear hf hv
  go_wp2_with fail
  refine (allC_any bd.stocks da la bd.days.length dc bd.loans.length lc w.heap.size ra rc l _ hl9 (HRC.out.below HB1.out) HX0.out (by omega) (by omega)).mono ?_
  rintro e w2 ⟨rfl, hb2⟩
  rw [show l.all (recB bd.loans.length bd.days.length ·) = true from HR.out]
  have HB2 := Lib.hid (HB1.out.trans (hb2.mono (by omega)))
  have HX2 := Lib.hid (heap_of_below hb2 HX0.out)
  clear hb2 u0 u1 u2
  go_wp2
  go_loopw [7, 8, 9, 21] (fun ov' _ _ j wr => ∃ (k : Nat) (ov : Value), ov = ov' ∧ k ≤ l.length ∧ j = .int .i64 k ∧ OwnL intK wr (w.heap.size + 1) ov (oddN bd l k) ∧
    Below w.heap.size w wr ∧ wr.heap[w.heap.size]? = some (.cells #[.int .i64 bd.stocks, .slice da bd.days.length dc, .slice la bd.loans.length lc] 38 (0, 0))) (fun _ _ _ j _ => l.length - (intOf j).toNat)
  case atStart => exact ⟨0, _, rfl, Nat.zero_le _, rfl, OwnL.nil _ _ _, HB2.out, HX2.out⟩
  case round =>
    obtain ⟨k, ov, rfl, hk, rfl, ho, hbw, hx⟩ := hrel
    have HO := Lib.hid ho; have HBW := Lib.hid hbw; have HX := Lib.hid hx
    have u0 : wr.cell? ⟨w.heap.size, 0, none⟩ = some (.int .i64 bd.stocks) := (cell_of_heap hx).trans rfl
    have u1 : wr.cell? ⟨w.heap.size, 1, none⟩ = some (.slice da bd.days.length dc) := (cell_of_heap hx).trans rfl
    have u2 : wr.cell? ⟨w.heap.size, 2, none⟩ = some (.slice la bd.loans.length lc) := (cell_of_heap hx).trans rfl
    have lw := heap_lt hx
    clear ho hbw hx
    by_cases hlt : k < l.length
    · obtain ⟨b, off, rfl, c1, c2, c3⟩ := (HRC.out.below HBW.out) k hlt
      have hsp : spotB bd.loans.length bd.days.length (l.getD k default).loan (l.getD k default).day = true := (all_getD (d := (default : RecD))).1 HR.out k hlt
      simp only [spotB, inB, Bool.and_eq_true, decide_eq_true_eq] at hsp
      have HSU := Lib.hid (fun x => oddN_succ bd l k x)
      have hol := oddN_len bd l k
      obtain ⟨ln, hln⟩ : ∃ ln : Nat, (ln : Int) = (l.getD k default).loan := ⟨(l.getD k default).loan.toNat, by omega⟩
      obtain ⟨dn, hdn⟩ : ∃ dn : Nat, (dn : Int) = (l.getD k default).day := ⟨(l.getD k default).day.toNat, by omega⟩
      rw [← hln] at HSU c1 hsp
      rw [← hdn] at HSU c2 hsp
      rw [Int.toNat_natCast, Int.toNat_natCast] at HSU
      have h1 : ln < bd.loans.length := by omega
      have h2 : dn < bd.days.length := by omega
      clear hln hdn hsp
      generalize (l.getD k default).pence = pe at *
      have hk1 : (k : Int) < (l.length : Int) := by omega
      have hk0 : (0 : Int) ≤ (k : Int) := by omega
      go_wp2_with fail
      have hWb : Below wr.heap.size wr (wr.alloc (.cells #[.int .i64 ln, .int .i64 dn, .int .i64 pe] 63)) := (Below.refl _ _).alloc (Nat.le_refl _) _
      have t0 : (wr.alloc (.cells #[.int .i64 ln, .int .i64 dn, .int .i64 pe] 63)).cell? ⟨wr.heap.size, 0, none⟩ = some (.int .i64 ln) := by simp [go_sem]
      have t1 : (wr.alloc (.cells #[.int .i64 ln, .int .i64 dn, .int .i64 pe] 63)).cell? ⟨wr.heap.size, 1, none⟩ = some (.int .i64 dn) := by simp [go_sem]
      have t2 : (wr.alloc (.cells #[.int .i64 ln, .int .i64 dn, .int .i64 pe] 63)).cell? ⟨wr.heap.size, 2, none⟩ = some (.int .i64 pe) := by simp [go_sem]
      replace u0 := cell_below hWb u0
      replace u1 := cell_below hWb u1
      replace u2 := cell_below hWb u2
      have HQ1 := Lib.hid (HO.out.below hWb)
      have HQB := Lib.hid (HBW.out.trans (hWb.mono (by omega)))
      have HQX := Lib.hid (heap_of_below hWb HX.out)
      have NO : Hid (some w.heap.size ≠ ov.ownBlock) := fun e => by have := (HQ1.out.lt _ e.symm).1; omega
      have hVs : wr.heap.size + 1 ≤ (wr.alloc (.cells #[.int .i64 ln, .int .i64 dn, .int .i64 pe] 63)).heap.size := by simp
      clear hWb HO HBW HX
      generalize wr.alloc (.cells #[.int .i64 ln, .int .i64 dn, .int .i64 pe] 63) = V at *
      generalize wr.heap.size = nr at *
      have HBKV := Lib.hid (HB0.out.below HQB.out.drew)
      cases hg : inB pe (callsN bd ln dn).lo (callsN bd ln dn).hi
      · have HSX := Lib.hid (HSU.out false hg)
        have HG := Lib.hid hg
        clear hg HSU
        refine wp_region_plan (fun w' => w'.cell? ⟨w.heap.size, 0, none⟩ = some (.int .i64 bd.stocks) ∧ w'.cell? ⟨w.heap.size, 1, none⟩ = some (.slice da bd.days.length dc) ∧ w'.cell? ⟨w.heap.size, 2, none⟩ = some (.slice la bd.loans.length lc) ∧ w'.cell? ⟨nr, 0, none⟩ = some (.int .i64 ln) ∧ w'.cell? ⟨nr, 1, none⟩ = some (.int .i64 dn) ∧ w'.cell? ⟨nr, 2, none⟩ = some (.int .i64 pe))
          [(0, 1), (1, 0), (2, 1), (3, 0), (4, 1), (5, 0), (7, 0), (8, 1), (6, 2), (9, 3), (10, 0)] (by kernel_rfl) (by kernel_rfl) ⟨u0, u1, u2, t0, t1, t2⟩ ?_
        repeat (first
          | (refine plan_look0 (v := ?_) rfl rfl ?_ ?_; rotate_left; focus (intro w'; go_simp; (try with_reducible rfl)); (try simp only [Act.put, List.setIfInBounds_toArray, List.set_cons_zero, List.set_cons_succ]))
          | (refine plan_look1 (v := ?_) rfl rfl ?_ ?_; rotate_left; focus (intro w' hSw; (try dsimp only at hSw); go_simp; (try with_reducible rfl)); (try simp only [Act.put, List.setIfInBounds_toArray, List.set_cons_zero, List.set_cons_succ])))
        refine plan_do2 (by rfl) (fun K hK => ?_)
        go_simp
        refine (calls_any bd da la dc lc ln dn _ HV.out HBKV.out h2 h1 HDC.out).mono ?_
        rintro e x1 ⟨rfl, hb5⟩
        have z0 := cell_below hb5 u0
        have z1 := cell_below hb5 u1
        have z2 := cell_below hb5 u2
        have z3 := cell_below hb5 t0
        have z4 := cell_below hb5 t1
        have z5 := cell_below hb5 t2
        have HB5 := Lib.hid (below_undrew hb5)
        have ls5 : V.heap.size ≤ x1.heap.size := hb5.size
        clear hb5
        go_wp2_with fail
        refine hK.out _ _ ⟨z0, z1, z2, z3, z4, z5⟩ ?_
        clear hK K
        (try simp only [Act.put, List.setIfInBounds_toArray, List.set_cons_zero, List.set_cons_succ])
        refine plan_do3 (by rfl) (fun K hK => ?_)
        go_simp
        refine (has_any (callsN bd ln dn).lo (callsN bd ln dn).hi pe _).mono ?_
        rintro e x2 ⟨rfl, hb6⟩
        rw [show inB pe (callsN bd ln dn).lo (callsN bd ln dn).hi = false from HG.out]
        have HB6 := Lib.hid hb6
        have ls6 : x1.heap.size ≤ x2.heap.size := hb6.size
        clear hb6
        go_wp2_with fail
        refine hK.out _ _ ?_
        clear hK K
        (try simp only [Act.put, List.setIfInBounds_toArray, List.set_cons_zero, List.set_cons_succ])
        repeat (first
          | (refine plan_look0 (v := ?_) rfl rfl ?_ ?_; rotate_left; focus (intro w'; go_simp; (try with_reducible rfl)); (try simp only [Act.put, List.setIfInBounds_toArray, List.set_cons_zero, List.set_cons_succ]))
          | (refine plan_look1 (v := ?_) rfl rfl ?_ ?_; rotate_left; focus (intro w' hSw; (try dsimp only at hSw); go_simp; (try with_reducible rfl)); (try simp only [Act.put, List.setIfInBounds_toArray, List.set_cons_zero, List.set_cons_succ])))
        refine plan_end ?_
        have HO6 := Lib.hid ((HQ1.out.below HB5.out).below HB6.out)
        have HB7 := Lib.hid ((HQB.out.trans (HB5.out.mono (by omega))).trans (HB6.out.mono (by omega)))
        have HX7 := Lib.hid (heap_of_below HB6.out (heap_of_below HB5.out HQX.out))
        go_wp2_with (at_builtin; refine wpList_app (K := intK) rfl (.tmp 37) (.tmp 39) rfl (w.heap.size + 1) ov (oddN bd l k) (oddN bd l k).length rfl rfl (HO6.out.alloc _) x2.heap.size (k : Int) [.int .i64 (k : Int)] rfl (al_new rfl) rfl (fun b h => h.elim) (by omega) (by simp; omega) ?_)
        intro g1 cap1 w3 hown3 hgrow3 hat3 hlt3
        have HF1 : Hid (OwnL intK w3 (w.heap.size + 1) (.slice (some ⟨g1, 0, none⟩) ((oddN bd l k).length + 1) cap1) (oddN bd l (k + 1))) := by
          show OwnL _ _ _ _ _
          rw [HSX.out]
          exact hown3
        have HF4 := Lib.hid ((HB7.out.alloc (by omega) (.cells #[.int .i64 (k : Int)] 3)).grown hgrow3 (by simp; omega) (fun g h => by have := (HQ1.out.lt g h).1; omega))
        have HF5 := Lib.hid (heap_app hgrow3 HX7.out (by omega) NO.out)
        clear hown3 hgrow3 hat3
        go_wp2
        go_roundw
        case rel => exact ⟨k + 1, _, rfl, by omega, by go_num, HF1.out, HF4.out, HF5.out⟩
        case measure => simp [intOf]; omega
      · have HSX := Lib.hid (HSU.out true hg)
        have HG := Lib.hid hg
        clear hg HSU
        refine wp_region_plan (fun w' => w'.cell? ⟨w.heap.size, 0, none⟩ = some (.int .i64 bd.stocks) ∧ w'.cell? ⟨w.heap.size, 1, none⟩ = some (.slice da bd.days.length dc) ∧ w'.cell? ⟨w.heap.size, 2, none⟩ = some (.slice la bd.loans.length lc) ∧ w'.cell? ⟨nr, 0, none⟩ = some (.int .i64 ln) ∧ w'.cell? ⟨nr, 1, none⟩ = some (.int .i64 dn) ∧ w'.cell? ⟨nr, 2, none⟩ = some (.int .i64 pe))
          [(0, 1), (1, 0), (2, 1), (3, 0), (4, 1), (5, 0), (7, 0), (8, 1), (6, 2), (9, 3), (10, 0)] (by kernel_rfl) (by kernel_rfl) ⟨u0, u1, u2, t0, t1, t2⟩ ?_
        repeat (first
          | (refine plan_look0 (v := ?_) rfl rfl ?_ ?_; rotate_left; focus (intro w'; go_simp; (try with_reducible rfl)); (try simp only [Act.put, List.setIfInBounds_toArray, List.set_cons_zero, List.set_cons_succ]))
          | (refine plan_look1 (v := ?_) rfl rfl ?_ ?_; rotate_left; focus (intro w' hSw; (try dsimp only at hSw); go_simp; (try with_reducible rfl)); (try simp only [Act.put, List.setIfInBounds_toArray, List.set_cons_zero, List.set_cons_succ])))
        refine plan_do2 (by rfl) (fun K hK => ?_)
        go_simp
        refine (calls_any bd da la dc lc ln dn _ HV.out HBKV.out h2 h1 HDC.out).mono ?_
        rintro e x1 ⟨rfl, hb5⟩
        have z0 := cell_below hb5 u0
        have z1 := cell_below hb5 u1
        have z2 := cell_below hb5 u2
        have z3 := cell_below hb5 t0
        have z4 := cell_below hb5 t1
        have z5 := cell_below hb5 t2
        have HB5 := Lib.hid (below_undrew hb5)
        have ls5 : V.heap.size ≤ x1.heap.size := hb5.size
        clear hb5
        go_wp2_with fail
        refine hK.out _ _ ⟨z0, z1, z2, z3, z4, z5⟩ ?_
        clear hK K
        (try simp only [Act.put, List.setIfInBounds_toArray, List.set_cons_zero, List.set_cons_succ])
        refine plan_do3 (by rfl) (fun K hK => ?_)
        go_simp
        refine (has_any (callsN bd ln dn).lo (callsN bd ln dn).hi pe _).mono ?_
        rintro e x2 ⟨rfl, hb6⟩
        rw [show inB pe (callsN bd ln dn).lo (callsN bd ln dn).hi = true from HG.out]
        have HB6 := Lib.hid hb6
        have ls6 : x1.heap.size ≤ x2.heap.size := hb6.size
        clear hb6
        go_wp2_with fail
        refine hK.out _ _ ?_
        clear hK K
        (try simp only [Act.put, List.setIfInBounds_toArray, List.set_cons_zero, List.set_cons_succ])
        repeat (first
          | (refine plan_look0 (v := ?_) rfl rfl ?_ ?_; rotate_left; focus (intro w'; go_simp; (try with_reducible rfl)); (try simp only [Act.put, List.setIfInBounds_toArray, List.set_cons_zero, List.set_cons_succ]))
          | (refine plan_look1 (v := ?_) rfl rfl ?_ ?_; rotate_left; focus (intro w' hSw; (try dsimp only at hSw); go_simp; (try with_reducible rfl)); (try simp only [Act.put, List.setIfInBounds_toArray, List.set_cons_zero, List.set_cons_succ])))
        refine plan_end ?_
        have HO6 : Hid (OwnL intK x2 (w.heap.size + 1) ov (oddN bd l (k + 1))) := by
          show OwnL _ _ _ _ _
          rw [HSX.out, if_pos trivial, List.append_nil]
          exact ((HQ1.out.below HB5.out).below HB6.out)
        have HB7 := Lib.hid ((HQB.out.trans (HB5.out.mono (by omega))).trans (HB6.out.mono (by omega)))
        have HX7 := Lib.hid (heap_of_below HB6.out (heap_of_below HB5.out HQX.out))
        go_wp2
        go_roundw
        case rel => exact ⟨k + 1, _, rfl, by omega, by go_num, HO6.out, HB7.out, HX7.out⟩
        case measure => simp [intOf]; omega
    · have H1 := Lib.hid HO.out
      have hke : k = l.length := by omega
      rw [hke] at H1
      obtain ⟨a, c, e1, hr1, hf1⟩ := H1.out.ints
      have HR1 := Lib.hid hr1; have HF1 := Lib.hid hf1
      clear hr1 hf1 hke
      subst e1
      go_wp2
      go_ret2
      exact ⟨a, c, rfl, HR1.out, fun b off sp e => by have := (HF1.out b off sp e).1; omega, HBW.out⟩
end Go.Proofs.Ytfiacjdkdjkiiaa
