/- The walks over Total and Surely. -/
import Derived.Test.YtfiacjdkdjkiiaaW18
namespace Go.Proofs.Ytfiacjdkdjkiiaa
open Go.RowKit
set_option linter.unusedVariables false
set_option linter.unusedSimpArgs false
attribute [local go_sem ↓] Go.wp_at_zero Go.wp_at_succ

/-- sums of calls of the first loans -/
def sumLo (b : BankD) (n j : Nat) : Int := sumI ((List.range j).map fun i => (callsN b i n).lo)
def sumHi (b : BankD) (n j : Nat) : Int := sumI ((List.range j).map fun i => (callsN b i n).hi)
def totalN (b : BankD) (n : Nat) : Rng := ⟨sumLo b n b.loans.length, sumHi b n b.loans.length⟩
def totalL (b : BankD) : List Rng := (List.range b.days.length).map (totalN b)
theorem sumLo_succ (b : BankD) (n j : Nat) : sumLo b n (j + 1) = sumLo b n j + (callsN b j n).lo := by
  unfold sumLo; rw [List.range_succ, List.map_append, sumI_append]; simp [sumI]
theorem sumHi_succ (b : BankD) (n j : Nat) : sumHi b n (j + 1) = sumHi b n j + (callsN b j n).hi := by
  unfold sumHi; rw [List.range_succ, List.map_append, sumI_append]; simp [sumI]
theorem calls_bd {b : BankD} (hv : Valid b) (i n : Nat) (hn : n < b.days.length) (hi : i < b.loans.length) : 0 ≤ (callsN b i n).lo ∧ (callsN b i n).lo ≤ 500000 ∧ 0 ≤ (callsN b i n).hi ∧ (callsN b i n).hi ≤ 500000 := by
  have h1 := endSt_bd hv false true i n hn hi
  have h2 := endSt_bd hv true false i n hn hi
  exact ⟨h1.2.2.1, by show (endSt b false true i n).call ≤ _; omega, h2.2.2.1, by show (endSt b true false i n).call ≤ _; omega⟩
theorem sums_bd {b : BankD} (hv : Valid b) (n j : Nat) (hn : n < b.days.length) (hj : j ≤ b.loans.length) : 0 ≤ sumLo b n j ∧ sumLo b n j ≤ 500000 * j ∧ 0 ≤ sumHi b n j ∧ sumHi b n j ≤ 500000 * j := by
  induction j with
  | zero => simp [sumLo, sumHi, sumI]
  | succ j ih =>
    have h1 := ih (by omega)
    have h2 := calls_bd hv j n hn (by omega)
    rw [sumLo_succ, sumHi_succ]
    omega
def sureN (b : BankD) (n k : Nat) : List Int := ((List.range k).filter fun i => decide (0 < (callsN b i n).lo)).map fun i : Nat => (i : Int)
def mayN (b : BankD) (n k : Nat) : List Int := ((List.range k).filter fun i => decide (0 < (callsN b i n).hi)).map fun i : Nat => (i : Int)
theorem sureN_succ (b : BankD) (n k : Nat) : sureN b n (k + 1) = sureN b n k ++ if 0 < (callsN b k n).lo then [(k : Int)] else [] := by
  unfold sureN; rw [List.range_succ, List.filter_append, List.map_append]
  congr 1
  by_cases h : 0 < (callsN b k n).lo <;> simp [h]
theorem mayN_succ (b : BankD) (n k : Nat) : mayN b n (k + 1) = mayN b n k ++ if 0 < (callsN b k n).hi then [(k : Int)] else [] := by
  unfold mayN; rw [List.range_succ, List.filter_append, List.map_append]
  congr 1
  by_cases h : 0 < (callsN b k n).hi <;> simp [h]
theorem sureN_len (b : BankD) (n k : Nat) : (sureN b n k).length ≤ k := by
  unfold sureN; rw [List.length_map]; exact Nat.le_trans (List.length_filter_le _ _) (by simp)
theorem mayN_len (b : BankD) (n k : Nat) : (mayN b n k).length ≤ k := by
  unfold mayN; rw [List.length_map]; exact Nat.le_trans (List.length_filter_le _ _) (by simp)

theorem total_bad (bd : BankD) (da la : Option Addr) (dc lc : Nat) (w : World) (hB : BankAt w da la bd) (hS : Short bd) (hf : faultN bd ≠ 0) :
    Calls Try.prog 29 #[.agg #[.int .i64 bd.stocks, .slice da bd.days.length dc, .slice la bd.loans.length lc]] w fun e w' => e = .returned (.tuple #[.slice none 0 0, .int .i64 (faultN bd)]) ∧ Below w.heap.size w w' := by
  have hbox : Below w.heap.size w (w.alloc (.cells #[.int .i64 bd.stocks, .slice da bd.days.length dc, .slice la bd.loans.length lc] 38)) := (Below.refl _ _).alloc (Nat.le_refl _) _
  have HBK := Lib.hid (hB.below hbox)
  have HBX := Lib.hid hbox
  have HB0 := Lib.hid hB
  have HSH := Lib.hid hS
  clear hbox hB hS
  go_enter Try.func29, Try.ntmps29
  go_wp2_with fail
  refine (check_any da la dc lc bd _ HBK.out HSH.out).mono ?_
  rintro e w1 ⟨rfl, hb1⟩
  have HB1 := Lib.hid hb1
  have e1 : (faultN bd != 0) = true := by simpa using hf
  clear hb1 hf
  go_wp2
  go_ret2
  exact ⟨rfl, HBX.out.trans (HB1.out.mono (by simp))⟩

set_option maxRecDepth 100000 in
set_option maxHeartbeats 2000000 in
theorem total_ok (bd : BankD) (da la : Option Addr) (dc lc : Nat) (w : World) (hB : BankAt w da la bd) (hS : Short bd) (hf : faultN bd = 0) (hdc : bd.days.length ≤ dc) :
    Calls Try.prog 29 #[.agg #[.int .i64 bd.stocks, .slice da bd.days.length dc, .slice la bd.loans.length lc]] w fun e w' => ∃ a c, e = .returned (.tuple #[.slice a bd.days.length c, .int .i64 0]) ∧ RngsAt w' a (totalL bd) ∧
      (∀ b off sp, a = some ⟨b, off, sp⟩ → w.heap.size ≤ b) ∧ Below w.heap.size w w' := by
  have HDC := Lib.hid hdc
  have hbox : Below w.heap.size w (w.alloc (.cells #[.int .i64 bd.stocks, .slice da bd.days.length dc, .slice la bd.loans.length lc] 38)) := (Below.refl _ _).alloc (Nat.le_refl _) _
  have HBK := Lib.hid (hB.below hbox)
  have HBX := Lib.hid hbox
  have HB0 := Lib.hid hB
  have HSH := Lib.hid hS
  clear hbox hB hS
  go_enter Try.func29, Try.ntmps29
  go_wp2_with fail
  refine (check_any da la dc lc bd _ HBK.out HSH.out).mono ?_
  rintro e w1 ⟨rfl, hb1⟩
  rw [hf]
  have HB1 := Lib.hid (HBX.out.trans (hb1.mono (by simp)))
  have hw1 : w.heap.size + 1 ≤ w1.heap.size := by have := hb1.size; simpa using this
  have hx0 : w1.heap[w.heap.size]? = some (.cells #[.int .i64 bd.stocks, .slice da bd.days.length dc, .slice la bd.loans.length lc] 38 (0, 0)) := heap_of_below hb1 (heap_alloc_new w _)
  have HX0 := Lib.hid hx0
  have u0 : w1.cell? ⟨w.heap.size, 0, none⟩ = some (.int .i64 bd.stocks) := (cell_of_heap hx0).trans rfl
  have u1 : w1.cell? ⟨w.heap.size, 1, none⟩ = some (.slice da bd.days.length dc) := (cell_of_heap hx0).trans rfl
  have u2 : w1.cell? ⟨w.heap.size, 2, none⟩ = some (.slice la bd.loans.length lc) := (cell_of_heap hx0).trans rfl
  clear hb1 hx0
  have hv := valid_of hf
  have HV := Lib.hid hv
  obtain ⟨hd1, hd2⟩ := hv.days
  have hl1 := hv.loans
  have HF := Lib.hid hf
  clear hf hv
  go_wp2
  go_loopw [5, 6, 7, 8, 9, 18] (fun ov' _ _ _ _ j wr => ∃ (k : Nat) (ov : Value), ov = ov' ∧ k ≤ bd.days.length ∧ j = .int .i64 k ∧ OwnL rngK wr (w.heap.size + 1) ov ((totalL bd).take k) ∧
    Below w.heap.size w wr ∧ wr.heap[w.heap.size]? = some (.cells #[.int .i64 bd.stocks, .slice da bd.days.length dc, .slice la bd.loans.length lc] 38 (0, 0))) (fun _ _ _ _ _ j _ => bd.days.length - (intOf j).toNat)
  case atStart => exact ⟨0, _, rfl, Nat.zero_le _, rfl, OwnL.nil _ _ _, HB1.out, HX0.out⟩
  case round =>
    obtain ⟨k, ov, rfl, hk, rfl, ho, hbw, hx⟩ := hrel
    have HO := Lib.hid ho; have HBW := Lib.hid hbw; have HX := Lib.hid hx
    have u0 : wr.cell? ⟨w.heap.size, 0, none⟩ = some (.int .i64 bd.stocks) := (cell_of_heap hx).trans rfl
    have u1 : wr.cell? ⟨w.heap.size, 1, none⟩ = some (.slice da bd.days.length dc) := (cell_of_heap hx).trans rfl
    have u2 : wr.cell? ⟨w.heap.size, 2, none⟩ = some (.slice la bd.loans.length lc) := (cell_of_heap hx).trans rfl
    have lw := heap_lt hx
    clear ho hbw hx
    by_cases hlt : k < bd.days.length
    · have hdk : decide ((k : Int) < (bd.days.length : Int)) = true := by simp; omega
      go_wp2
      obtain ⟨wo, rfl⟩ : ∃ wo : World, wo = wr := ⟨_, rfl⟩
      go_loopw [8, 9, 24] (fun _ _ j wr => ∃ m : Nat, m ≤ bd.loans.length ∧ j = .int .i64 m ∧ Below wo.heap.size wo wr ∧ wr.heap[wo.heap.size]? = some (.cells #[.int .i64 (sumLo bd k m), .int .i64 (sumHi bd k m)] 82 (0, 0))) (fun _ _ j _ => bd.loans.length - (intOf j).toNat)
      case atStart => exact ⟨0, Nat.zero_le _, rfl, (Below.refl _ _).alloc (Nat.le_refl _) _, al_new rfl⟩
      case round =>
        obtain ⟨m, hm, rfl, hbo, hso⟩ := hrel
        have HBO := Lib.hid hbo; have HSO := Lib.hid hso
        have v0 := cell_below hbo u0
        have v1 := cell_below hbo u1
        have v2 := cell_below hbo u2
        have s0 : wr.cell? ⟨wo.heap.size, 0, none⟩ = some (.int .i64 (sumLo bd k m)) := (cell_of_heap hso).trans rfl
        have s1 : wr.cell? ⟨wo.heap.size, 1, none⟩ = some (.int .i64 (sumHi bd k m)) := (cell_of_heap hso).trans rfl
        have f0 : wr.frozen? ⟨wo.heap.size, 0, none⟩ = false := frozen_of_heap hso
        have f1 : wr.frozen? ⟨wo.heap.size, 1, none⟩ = false := frozen_of_heap hso
        have lso := heap_lt hso
        clear hbo hso
        have hsb := sums_bd HV.out k m hlt hm
        by_cases hltm : m < bd.loans.length
        · have hcb := calls_bd HV.out m k hlt hltm
          have HS1 := Lib.hid (sumLo_succ bd k m)
          have HS2 := Lib.hid (sumHi_succ bd k m)
          have HBR := Lib.hid ((HB0.out.below HBW.out).below HBO.out)
          go_wp2_with fail
          refine (calls_any bd da la dc lc m k _ HV.out HBR.out hlt hltm HDC.out).mono ?_
          rintro e w5 ⟨rfl, hb5⟩
          have HB5 := Lib.hid hb5
          replace s0 := cell_below hb5 s0
          replace s1 := cell_below hb5 s1
          replace f0 := frz_below hb5 (cell_of_heap (k := 0) HSO.out |>.trans rfl) f0
          replace f1 := frz_below hb5 (cell_of_heap (k := 1) HSO.out |>.trans rfl) f1
          have ls5 : wr.heap.size ≤ w5.heap.size := hb5.size
          have lso5 : wo.heap.size < w5.heap.size := by omega
          have HX5 := Lib.hid (heap_of_below hb5 HSO.out)
          have HB6 := Lib.hid (HBO.out.trans (hb5.mono (by omega)))
          clear hb5 v0 v1 v2
          generalize sumLo bd k m = sl at *
          generalize sumHi bd k m = sh at *
          generalize hcl : (callsN bd m k).lo = cl at *
          generalize hch : (callsN bd m k).hi = ch at *
          clear hcl hch
          have HN1 : Hid (Below wo.heap.size wo (((w5.setCell ⟨wo.heap.size, 0, none⟩ (.int .i64 (sl + cl))).setCell ⟨wo.heap.size, 1, none⟩ (.int .i64 (sh + ch))).alloc (.cells #[.int .i64 cl, .int .i64 ch] 82))) := ((HB6.out.setCell (by simp) _).setCell (by simp) _).alloc (by simp; omega) _
          have HN2 : Hid ((((w5.setCell ⟨wo.heap.size, 0, none⟩ (.int .i64 (sl + cl))).setCell ⟨wo.heap.size, 1, none⟩ (.int .i64 (sh + ch))).alloc (.cells #[.int .i64 cl, .int .i64 ch] 82)).heap[wo.heap.size]? = some (.cells #[.int .i64 (sumLo bd k (m + 1)), .int .i64 (sumHi bd k (m + 1))] 82 (0, 0))) := by
            show _ = _
            rw [HS1.out, HS2.out]
            exact al_old (heap_setCell_same _ _ 1 #[.int .i64 (sl + cl), .int .i64 sh] _ _ (heap_setCell_same _ _ 0 #[.int .i64 sl, .int .i64 sh] _ _ HX5.out))
          go_wp2
          go_roundw
          case rel => exact ⟨m + 1, by omega, by go_num, HN1.out, HN2.out⟩
          case measure => simp [intOf]; omega
        · have hme : m = bd.loans.length := by omega
          have HTN : Hid (totalN bd k = ⟨sumLo bd k m, sumHi bd k m⟩) := by show totalN bd k = _; rw [hme]; rfl
          have HLK : Hid (((totalL bd).take k).length = k) := by show _ = _; simp [totalL]; omega
          have NO : Hid (some w.heap.size ≠ ov.ownBlock) := fun e => by have := (HO.out.lt _ e.symm).1; omega
          clear hme
          generalize sumLo bd k m = sl at *
          generalize sumHi bd k m = sh at *
          go_wp2_with (at_builtin; refine wpList_app (K := rngK) rfl _ _ rfl (w.heap.size + 1) ov ((totalL bd).take k) k HLK.out rfl ((HO.out.below HBO.out).alloc _) wr.heap.size ⟨sl, sh⟩ [.int .i64 sl, .int .i64 sh] rfl (heap_alloc_new wr _) rfl (fun b h => h.elim) (by omega) (by simp; omega) ?_)
          intro g cap w3 hown3 hgrow hat hlt3
          have HOWN3 := Lib.hid hown3; have HGR := Lib.hid hgrow
          clear hown3 hgrow hat
          have HN1 : Hid (OwnL rngK w3 (w.heap.size + 1) (.slice (some ⟨g, 0, none⟩) (k + 1) cap) ((totalL bd).take (k + 1))) := by
            show OwnL _ _ _ _ _
            unfold totalL
            rw [range_map_succ _ _ _ hlt, HTN.out]
            exact HOWN3.out
          have HN2 : Hid (Below w.heap.size w w3) := ((HBW.out.trans (HBO.out.mono (by omega))).alloc (by omega) _).grown HGR.out (by simp; omega) (fun g h => by have := (HO.out.lt g h).1; omega)
          have HN3 : Hid (w3.heap[w.heap.size]? = some (.cells #[.int .i64 bd.stocks, .slice da bd.days.length dc, .slice la bd.loans.length lc] 38 (0, 0))) := heap_app HGR.out (heap_of_below HBO.out HX.out) (by omega) NO.out
          go_wp2
          go_roundw
          case rel => exact ⟨k + 1, _, rfl, by omega, by go_num, HN1.out, HN2.out, HN3.out⟩
          case measure => simp [intOf]; omega
    · have H1 := Lib.hid HO.out
      rw [List.take_of_length_le (by simp [totalL]; omega)] at H1
      obtain ⟨a, c, e1, hr1, hf1⟩ := H1.out.rngs
      have HR1 := Lib.hid hr1; have HF1 := Lib.hid hf1
      have hl5 : (totalL bd).length = bd.days.length := by simp [totalL]
      rw [hl5] at e1
      clear hr1 hf1 hl5
      subst e1
      go_wp2
      go_ret2
      exact ⟨a, c, rfl, HR1.out, fun b off sp e => by have := (HF1.out b off sp e).1; omega, HBW.out⟩

theorem surely_bad (bd : BankD) (da la : Option Addr) (dc lc : Nat) (day : Int) (w : World) (hB : BankAt w da la bd) (hS : Short bd) (hf : faultN bd ≠ 0) :
    Calls Try.prog 34 #[.agg #[.int .i64 bd.stocks, .slice da bd.days.length dc, .slice la bd.loans.length lc], .int .i64 day] w fun e w' => e = .returned (.tuple #[.slice none 0 0, .slice none 0 0, .int .i64 (faultN bd)]) ∧ Below w.heap.size w w' := by
  have hbox : Below w.heap.size w (w.alloc (.cells #[.int .i64 bd.stocks, .slice da bd.days.length dc, .slice la bd.loans.length lc] 38)) := (Below.refl _ _).alloc (Nat.le_refl _) _
  have HBK := Lib.hid (hB.below hbox)
  have HBX := Lib.hid hbox
  have HB0 := Lib.hid hB
  have HSH := Lib.hid hS
  clear hbox hB hS
  go_enter Try.func34, Try.ntmps34
  go_wp2_with fail
  refine (check_any da la dc lc bd _ HBK.out HSH.out).mono ?_
  rintro e w1 ⟨rfl, hb1⟩
  have HB1 := Lib.hid hb1
  have e1 : (faultN bd != 0) = true := by simpa using hf
  clear hb1 hf
  go_wp2
  go_ret3
  exact ⟨rfl, HBX.out.trans (HB1.out.mono (by simp))⟩

theorem surely_range (bd : BankD) (da la : Option Addr) (dc lc : Nat) (day : Int) (w : World) (hB : BankAt w da la bd) (hS : Short bd) (hf : faultN bd = 0) (hr : inB day 0 ((bd.days.length : Int) - 1) = false) :
    Calls Try.prog 34 #[.agg #[.int .i64 bd.stocks, .slice da bd.days.length dc, .slice la bd.loans.length lc], .int .i64 day] w fun e w' => e = .returned (.tuple #[.slice none 0 0, .slice none 0 0, .int .i64 2]) ∧ Below w.heap.size w w' := by
  have hbox : Below w.heap.size w (w.alloc (.cells #[.int .i64 bd.stocks, .slice da bd.days.length dc, .slice la bd.loans.length lc] 38)) := (Below.refl _ _).alloc (Nat.le_refl _) _
  have HBK := Lib.hid (hB.below hbox)
  have HBX := Lib.hid hbox
  have HB0 := Lib.hid hB
  have HSH := Lib.hid hS
  clear hbox hB hS
  go_enter Try.func34, Try.ntmps34
  go_wp2_with fail
  refine (check_any da la dc lc bd _ HBK.out HSH.out).mono ?_
  rintro e w1 ⟨rfl, hb1⟩
  rw [hf]
  have HB1 := Lib.hid (HBX.out.trans (hb1.mono (by simp)))
  have hw1 : w.heap.size + 1 ≤ w1.heap.size := by have := hb1.size; simpa using this
  have hx0 : w1.heap[w.heap.size]? = some (.cells #[.int .i64 bd.stocks, .slice da bd.days.length dc, .slice la bd.loans.length lc] 38 (0, 0)) := heap_of_below hb1 (heap_alloc_new w _)
  have HX0 := Lib.hid hx0
  have u0 : w1.cell? ⟨w.heap.size, 0, none⟩ = some (.int .i64 bd.stocks) := (cell_of_heap hx0).trans rfl
  have u1 : w1.cell? ⟨w.heap.size, 1, none⟩ = some (.slice da bd.days.length dc) := (cell_of_heap hx0).trans rfl
  have u2 : w1.cell? ⟨w.heap.size, 2, none⟩ = some (.slice la bd.loans.length lc) := (cell_of_heap hx0).trans rfl
  clear hb1 hx0
  have hv := valid_of hf
  have HV := Lib.hid hv
  obtain ⟨hd1, hd2⟩ := hv.days
  have hl1 := hv.loans
  have HF := Lib.hid hf
  clear hf hv
  have HR := Lib.hid hr
  clear hr
  go_wp2_with fail
  refine (within_false _ _ _ _ HR.out).mono ?_
  rintro e w2 ⟨rfl, rfl⟩
  go_wp2
  go_ret3
  exact ⟨rfl, HB1.out⟩
set_option maxRecDepth 100000 in
set_option maxHeartbeats 2000000 in
theorem surely_ok (bd : BankD) (da la : Option Addr) (dc lc : Nat) (n : Nat) (w : World) (hB : BankAt w da la bd) (hS : Short bd) (hf : faultN bd = 0) (hn : n < bd.days.length) (hdc : bd.days.length ≤ dc) :
    Calls Try.prog 34 #[.agg #[.int .i64 bd.stocks, .slice da bd.days.length dc, .slice la bd.loans.length lc], .int .i64 n] w fun e w' => ∃ a c a' c', e = .returned (.tuple #[.slice a (sureN bd n bd.loans.length).length c, .slice a' (mayN bd n bd.loans.length).length c', .int .i64 0]) ∧ IntsAt w' a (sureN bd n bd.loans.length) ∧ IntsAt w' a' (mayN bd n bd.loans.length) ∧ Below w.heap.size w w' := by
  have HDC := Lib.hid hdc
  have hbox : Below w.heap.size w (w.alloc (.cells #[.int .i64 bd.stocks, .slice da bd.days.length dc, .slice la bd.loans.length lc] 38)) := (Below.refl _ _).alloc (Nat.le_refl _) _
  have HBK := Lib.hid (hB.below hbox)
  have HBX := Lib.hid hbox
  have HB0 := Lib.hid hB
  have HSH := Lib.hid hS
  clear hbox hB hS
  go_enter Try.func34, Try.ntmps34
  go_wp2_with fail
  refine (check_any da la dc lc bd _ HBK.out HSH.out).mono ?_
  rintro e w1 ⟨rfl, hb1⟩
  rw [hf]
  have HB1 := Lib.hid (HBX.out.trans (hb1.mono (by simp)))
  have hw1 : w.heap.size + 1 ≤ w1.heap.size := by have := hb1.size; simpa using this
  have hx0 : w1.heap[w.heap.size]? = some (.cells #[.int .i64 bd.stocks, .slice da bd.days.length dc, .slice la bd.loans.length lc] 38 (0, 0)) := heap_of_below hb1 (heap_alloc_new w _)
  have HX0 := Lib.hid hx0
  have u0 : w1.cell? ⟨w.heap.size, 0, none⟩ = some (.int .i64 bd.stocks) := (cell_of_heap hx0).trans rfl
  have u1 : w1.cell? ⟨w.heap.size, 1, none⟩ = some (.slice da bd.days.length dc) := (cell_of_heap hx0).trans rfl
  have u2 : w1.cell? ⟨w.heap.size, 2, none⟩ = some (.slice la bd.loans.length lc) := (cell_of_heap hx0).trans rfl
  clear hb1 hx0
  have hv := valid_of hf
  have HV := Lib.hid hv
  obtain ⟨hd1, hd2⟩ := hv.days
  have hl1 := hv.loans
  have HF := Lib.hid hf
  clear hf hv
  have HR : Hid (inB n 0 ((bd.days.length : Int) - 1) = true) := by show inB _ _ _ = true; simp [inB]; omega
  go_wp2_with fail
  refine (within_true _ _ _ _ HR.out).mono ?_
  rintro e w2 ⟨rfl, rfl⟩
  go_wp2
  go_loopw [4, 5, 8, 9, 25] (fun sv' mv' _ _ j wr => ∃ (k : Nat) (sv mv : Value), sv = sv' ∧ mv = mv' ∧ k ≤ bd.loans.length ∧ j = .int .i64 k ∧ OwnL intK wr (w.heap.size + 1) sv (sureN bd n k) ∧ OwnL intK wr (w.heap.size + 1) mv (mayN bd n k) ∧ (∀ g, sv.ownBlock = some g → mv.ownBlock ≠ some g) ∧
    Below w.heap.size w wr ∧ wr.heap[w.heap.size]? = some (.cells #[.int .i64 bd.stocks, .slice da bd.days.length dc, .slice la bd.loans.length lc] 38 (0, 0))) (fun _ _ _ _ j _ => bd.loans.length - (intOf j).toNat)
  case atStart => exact ⟨0, _, _, rfl, rfl, Nat.zero_le _, rfl, OwnL.nil _ _ _, OwnL.nil _ _ _, (fun g h => by cases h), HB1.out, HX0.out⟩
  case round =>
    obtain ⟨k, sv, mv, rfl, rfl, hk, rfl, hos, hom, hsep, hbw, hx⟩ := hrel
    have HOS := Lib.hid hos; have HOM := Lib.hid hom; have HSEP := Lib.hid hsep; have HBW := Lib.hid hbw; have HX := Lib.hid hx
    have u0 : wr.cell? ⟨w.heap.size, 0, none⟩ = some (.int .i64 bd.stocks) := (cell_of_heap hx).trans rfl
    have u1 : wr.cell? ⟨w.heap.size, 1, none⟩ = some (.slice da bd.days.length dc) := (cell_of_heap hx).trans rfl
    have u2 : wr.cell? ⟨w.heap.size, 2, none⟩ = some (.slice la bd.loans.length lc) := (cell_of_heap hx).trans rfl
    have lw := heap_lt hx
    clear hos hom hsep hbw hx
    by_cases hlt : k < bd.loans.length
    · have HBR := Lib.hid (HB0.out.below HBW.out)
      have HSS := Lib.hid (sureN_succ bd n k); have HMS := Lib.hid (mayN_succ bd n k)
      have hsl := sureN_len bd n k
      have hml := mayN_len bd n k
      go_wp2_with fail
      refine (calls_any bd da la dc lc k n _ HV.out HBR.out hn hlt HDC.out).mono ?_
      rintro e w5 ⟨rfl, hb5⟩
      have ls5 : wr.heap.size ≤ w5.heap.size := hb5.size
      have HO1 := Lib.hid (HOS.out.below hb5)
      have HO2 := Lib.hid (HOM.out.below hb5)
      have HB5 := Lib.hid (HBW.out.trans (hb5.mono (by omega)))
      have HX5 := Lib.hid (heap_of_below hb5 HX.out)
      clear hb5 HOS HOM HBW HX u0 u1 u2
      generalize (callsN bd k n).lo = cl at *
      generalize (callsN bd k n).hi = ch at *
      generalize hsn : (sureN bd n k) = xs at *
      generalize hmn : (mayN bd n k) = ys at *
      have HSN := Lib.hid hsn; have HMN := Lib.hid hmn
      clear hsn hmn
      have hWb : Below w5.heap.size w5 (w5.alloc (.cells #[.int .i64 cl, .int .i64 ch] 82)) := (Below.refl _ _).alloc (Nat.le_refl _) _
      have HQ1 := Lib.hid (HO1.out.below hWb)
      have HQ2 := Lib.hid (HO2.out.below hWb)
      have HQB := Lib.hid (HB5.out.trans (hWb.mono (by omega)))
      have HQX := Lib.hid (heap_of_below hWb HX5.out)
      have NS : Hid (some w.heap.size ≠ sv.ownBlock) := fun e => by have := (HQ1.out.lt _ e.symm).1; omega
      have NM : Hid (some w.heap.size ≠ mv.ownBlock) := fun e => by have := (HQ2.out.lt _ e.symm).1; omega
      have LS : Hid (∀ g, sv.ownBlock = some g → g < w5.heap.size) := fun g h => (HO1.out.lt g h).2
      have LM : Hid (∀ g, mv.ownBlock = some g → g < w5.heap.size) := fun g h => (HO2.out.lt g h).2
      clear HO1 HO2 HB5 HX5
      have t0 : (w5.alloc (.cells #[.int .i64 cl, .int .i64 ch] 82)).cell? ⟨w5.heap.size, 0, none⟩ = some (.int .i64 cl) := by simp [go_sem]
      have t1 : (w5.alloc (.cells #[.int .i64 cl, .int .i64 ch] 82)).cell? ⟨w5.heap.size, 1, none⟩ = some (.int .i64 ch) := by simp [go_sem]
      have hWs : w5.heap.size + 1 ≤ (w5.alloc (.cells #[.int .i64 cl, .int .i64 ch] 82)).heap.size := by simp
      by_cases h1 : 0 < cl
      · by_cases h2 : 0 < ch
        · go_wp2_with (at_builtin; refine wpList_app (K := intK) rfl (.tmp 36) (.tmp 38) rfl (w.heap.size + 1) sv xs xs.length rfl rfl (HQ1.out.alloc _) (w5.heap.size + 1) (k : Int) [.int .i64 (k : Int)] rfl (al_new (by simp)) rfl (fun b h => h.elim) (by omega) (by (try simp); omega) ?_)
          intro g1 cap1 w3 hown3 hgrow3 hat3 hlt3
          have z1 := cell_grown hgrow3 (cell_al t1) (fun e => absurd (LS.out _ e.symm) (by simp))
          have HOWN3 := Lib.hid hown3; have HGR3 := Lib.hid hgrow3; have HAT3 := Lib.hid hat3
          have HOM3 := Lib.hid ((HQ2.out.alloc (.cells #[.int .i64 (k : Int)] 3)).grown hgrow3 (fun g h => .inr ⟨HSEP.out g h, rfl⟩))
          have hs3 : w5.heap.size + 2 ≤ w3.heap.size := by have := hgrow3.size; simpa using this
          have HB3 := Lib.hid ((HQB.out.alloc (by (try simp); omega) (.cells #[.int .i64 (k : Int)] 3)).grown hgrow3 (by (try simp); omega) (fun g h => by have := (HQ1.out.lt g h).1; omega))
          have HX3 := Lib.hid (heap_app hgrow3 HQX.out (by (try simp); omega) NS.out)
          clear hown3 hgrow3 hat3
          go_wp2_with (at_builtin; refine wpList_app (K := intK) rfl (.tmp 43) (.tmp 45) rfl (w.heap.size + 1) mv ys ys.length rfl rfl (HOM3.out.alloc _) w3.heap.size (k : Int) [.int .i64 (k : Int)] rfl (al_new (by simp)) rfl (fun b h => h.elim) (by omega) (by (try simp); omega) ?_)
          intro g2 cap2 w6 hown6 hgrow6 hat6 hlt6
          have HOWN6 := Lib.hid hown6; have HGR6 := Lib.hid hgrow6; have HAT6 := Lib.hid hat6
          clear hown6 hgrow6 hat6
          have HF1 : Hid (OwnL intK w6 (w.heap.size + 1) (.slice (some ⟨g1, 0, none⟩) (xs.length + 1) cap1) (sureN bd n (k + 1))) := by
            show OwnL _ _ _ _ _
            rw [HSS.out, if_pos h1]
            exact ((HOWN3.out.alloc _).grown HGR6.out (fun g h => .inr ⟨fun e => by
                simp only [Value.ownBlock, Option.some.injEq] at e
                subst e
                rcases HAT3.out with h3 | h3
                · exact HSEP.out _ h3 h
                · have := LM.out _ h; (try simp at h3); omega, rfl⟩))
          have HF2 : Hid (OwnL intK w6 (w.heap.size + 1) (.slice (some ⟨g2, 0, none⟩) (ys.length + 1) cap2) (mayN bd n (k + 1))) := by
            show OwnL _ _ _ _ _
            rw [HMS.out, if_pos h2]
            exact HOWN6.out
          have HF3 : Hid (∀ g, Value.ownBlock (.slice (some ⟨g1, 0, none⟩) (xs.length + 1) cap1) = some g → Value.ownBlock (.slice (some ⟨g2, 0, none⟩) (ys.length + 1) cap2) ≠ some g) := fun g h h' => by
            simp only [Value.ownBlock, Option.some.injEq] at h h'
            subst h
            subst h'
            rcases HAT6.out with h6 | h6
            · rcases HAT3.out with h3 | h3
              · exact HSEP.out _ h3 h6
              · have := LM.out _ h6; (try simp at h3); omega
            · (try simp at h6); omega
          have HF4 : Hid (Below w.heap.size w w6) := ((HB3.out.alloc (by (try simp); omega) _).grown HGR6.out (by (try simp); omega) (fun g h => by have := (HQ2.out.lt g h).1; omega))
          have HF5 : Hid (w6.heap[w.heap.size]? = some (.cells #[.int .i64 bd.stocks, .slice da bd.days.length dc, .slice la bd.loans.length lc] 38 (0, 0))) := heap_app HGR6.out HX3.out (by omega) NM.out
          go_wp2
          go_roundw
          case rel => exact ⟨k + 1, _, _, rfl, rfl, by omega, by go_num, HF1.out, HF2.out, HF3.out, HF4.out, HF5.out⟩
          case measure => simp [intOf]; omega
        · go_wp2_with (at_builtin; refine wpList_app (K := intK) rfl (.tmp 36) (.tmp 38) rfl (w.heap.size + 1) sv xs xs.length rfl rfl (HQ1.out.alloc _) (w5.heap.size + 1) (k : Int) [.int .i64 (k : Int)] rfl (al_new (by simp)) rfl (fun b h => h.elim) (by omega) (by (try simp); omega) ?_)
          intro g1 cap1 w3 hown3 hgrow3 hat3 hlt3
          have z1 := cell_grown hgrow3 (cell_al t1) (fun e => absurd (LS.out _ e.symm) (by simp))
          have HOWN3 := Lib.hid hown3; have HGR3 := Lib.hid hgrow3; have HAT3 := Lib.hid hat3
          have HOM3 := Lib.hid ((HQ2.out.alloc (.cells #[.int .i64 (k : Int)] 3)).grown hgrow3 (fun g h => .inr ⟨HSEP.out g h, rfl⟩))
          have hs3 : w5.heap.size + 2 ≤ w3.heap.size := by have := hgrow3.size; simpa using this
          have HB3 := Lib.hid ((HQB.out.alloc (by (try simp); omega) (.cells #[.int .i64 (k : Int)] 3)).grown hgrow3 (by (try simp); omega) (fun g h => by have := (HQ1.out.lt g h).1; omega))
          have HX3 := Lib.hid (heap_app hgrow3 HQX.out (by (try simp); omega) NS.out)
          clear hown3 hgrow3 hat3
          have HF1 : Hid (OwnL intK w3 (w.heap.size + 1) (.slice (some ⟨g1, 0, none⟩) (xs.length + 1) cap1) (sureN bd n (k + 1))) := by
            show OwnL _ _ _ _ _
            rw [HSS.out, if_pos h1]
            exact HOWN3.out
          have HF2 : Hid (OwnL intK w3 (w.heap.size + 1) mv (mayN bd n (k + 1))) := by
            show OwnL _ _ _ _ _
            rw [HMS.out, if_neg (by omega), List.append_nil]
            exact HOM3.out
          have HF3 : Hid (∀ g, Value.ownBlock (.slice (some ⟨g1, 0, none⟩) (xs.length + 1) cap1) = some g → Value.ownBlock mv ≠ some g) := fun g h h' => by
            simp only [Value.ownBlock, Option.some.injEq] at h
            subst h
            rcases HAT3.out with h3 | h3
            · exact HSEP.out _ h3 h'
            · have := LM.out _ h'; (try simp at h3); omega
          have HF4 : Hid (Below w.heap.size w w3) := HB3.out
          have HF5 : Hid (w3.heap[w.heap.size]? = some (.cells #[.int .i64 bd.stocks, .slice da bd.days.length dc, .slice la bd.loans.length lc] 38 (0, 0))) := HX3.out
          go_wp2
          go_roundw
          case rel => exact ⟨k + 1, _, _, rfl, rfl, by omega, by go_num, HF1.out, HF2.out, HF3.out, HF4.out, HF5.out⟩
          case measure => simp [intOf]; omega
      · by_cases h2 : 0 < ch
        · go_wp2_with (at_builtin; refine wpList_app (K := intK) rfl (.tmp 43) (.tmp 45) rfl (w.heap.size + 1) mv ys ys.length rfl rfl (HQ2.out.alloc _) (w5.heap.size + 1) (k : Int) [.int .i64 (k : Int)] rfl (al_new (by simp)) rfl (fun b h => h.elim) (by omega) (by (try simp); omega) ?_)
          intro g2 cap2 w6 hown6 hgrow6 hat6 hlt6
          have HOWN6 := Lib.hid hown6; have HGR6 := Lib.hid hgrow6; have HAT6 := Lib.hid hat6
          clear hown6 hgrow6 hat6
          have HF1 : Hid (OwnL intK w6 (w.heap.size + 1) sv (sureN bd n (k + 1))) := by
            show OwnL _ _ _ _ _
            rw [HSS.out, if_neg (by omega), List.append_nil]
            exact ((HQ1.out.alloc _).grown HGR6.out (fun g h => .inr ⟨fun e => HSEP.out g e h, rfl⟩))
          have HF2 : Hid (OwnL intK w6 (w.heap.size + 1) (.slice (some ⟨g2, 0, none⟩) (ys.length + 1) cap2) (mayN bd n (k + 1))) := by
            show OwnL _ _ _ _ _
            rw [HMS.out, if_pos h2]
            exact HOWN6.out
          have HF3 : Hid (∀ g, Value.ownBlock sv = some g → Value.ownBlock (.slice (some ⟨g2, 0, none⟩) (ys.length + 1) cap2) ≠ some g) := fun g h h' => by
            simp only [Value.ownBlock, Option.some.injEq] at h'
            subst h'
            rcases HAT6.out with h6 | h6
            · exact HSEP.out _ h h6
            · have := LS.out _ h; (try simp at h6); omega
          have HF4 : Hid (Below w.heap.size w w6) := ((HQB.out.alloc (by (try simp); omega) _).grown HGR6.out (by (try simp); omega) (fun g h => by have := (HQ2.out.lt g h).1; omega))
          have HF5 : Hid (w6.heap[w.heap.size]? = some (.cells #[.int .i64 bd.stocks, .slice da bd.days.length dc, .slice la bd.loans.length lc] 38 (0, 0))) := heap_app HGR6.out HQX.out (by (try simp); omega) NM.out
          go_wp2
          go_roundw
          case rel => exact ⟨k + 1, _, _, rfl, rfl, by omega, by go_num, HF1.out, HF2.out, HF3.out, HF4.out, HF5.out⟩
          case measure => simp [intOf]; omega
        · have HF1 : Hid (OwnL intK (w5.alloc (.cells #[.int .i64 cl, .int .i64 ch] 82)) (w.heap.size + 1) sv (sureN bd n (k + 1))) := by
            show OwnL _ _ _ _ _
            rw [HSS.out, if_neg (by omega), List.append_nil]
            exact HQ1.out
          have HF2 : Hid (OwnL intK (w5.alloc (.cells #[.int .i64 cl, .int .i64 ch] 82)) (w.heap.size + 1) mv (mayN bd n (k + 1))) := by
            show OwnL _ _ _ _ _
            rw [HMS.out, if_neg (by omega), List.append_nil]
            exact HQ2.out
          have HF3 : Hid (∀ g, Value.ownBlock sv = some g → Value.ownBlock mv ≠ some g) := fun g h h' => by
            exact HSEP.out g h h'
          have HF4 : Hid (Below w.heap.size w (w5.alloc (.cells #[.int .i64 cl, .int .i64 ch] 82))) := HQB.out
          have HF5 : Hid ((w5.alloc (.cells #[.int .i64 cl, .int .i64 ch] 82)).heap[w.heap.size]? = some (.cells #[.int .i64 bd.stocks, .slice da bd.days.length dc, .slice la bd.loans.length lc] 38 (0, 0))) := HQX.out
          go_wp2
          go_roundw
          case rel => exact ⟨k + 1, _, _, rfl, rfl, by omega, by go_num, HF1.out, HF2.out, HF3.out, HF4.out, HF5.out⟩
          case measure => simp [intOf]; omega
    · have H1 := Lib.hid HOS.out
      have H2 := Lib.hid HOM.out
      have hke : k = bd.loans.length := by omega
      rw [hke] at H1 H2
      obtain ⟨a, c, e1, hr1, hf1⟩ := H1.out.ints
      obtain ⟨a', c', e2, hr2, hf2⟩ := H2.out.ints
      have HR1 := Lib.hid hr1; have HR2 := Lib.hid hr2
      clear hr1 hf1 hr2 hf2 hke
      subst e1 e2
      go_wp2
      go_ret3
      exact ⟨a, c, a', c', rfl, HR1.out, HR2.out, HBW.out⟩
end Go.Proofs.Ytfiacjdkdjkiiaa
