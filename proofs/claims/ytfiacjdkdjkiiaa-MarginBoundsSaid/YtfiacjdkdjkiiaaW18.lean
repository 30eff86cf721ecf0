/- The walks over Bounds, Total and Surely. -/
import Derived.Test.YtfiacjdkdjkiiaaW17
namespace Go.Proofs.Ytfiacjdkdjkiiaa
open Go.RowKit
set_option linter.unusedVariables false
set_option linter.unusedSimpArgs false
attribute [local go_sem ↓] Go.wp_at_zero Go.wp_at_succ

def debtsL (b : BankD) (i : Nat) : List Rng := (List.range b.days.length).map (debtsN b i)
def callsL (b : BankD) (i : Nat) : List Rng := (List.range b.days.length).map (callsN b i)
theorem range_map_succ {α : Type} (f : Nat → α) (n k : Nat) (h : k < n) : ((List.range n).map f).take (k + 1) = ((List.range n).map f).take k ++ [f k] := by
  rw [take_succ_getD (f 0) (by simpa using h)]
  congr 2
  simp [List.getD_eq_getElem?_getD, List.getElem?_map, List.getElem?_range h]
theorem range_map_get {α : Type} (f : Nat → α) (n k : Nat) (d : α) (h : k < n) : ((List.range n).map f).getD k d = f k := by
  simp [List.getD_eq_getElem?_getD, List.getElem?_map, List.getElem?_range h]
theorem Valid.short {b : BankD} (h : Valid b) : Short b := by
  have h1 := h.days
  have h2 := h.loans
  have h3 := h.st
  exact ⟨fun k hk => by have := h.plen k hk; omega, fun k hk => by have := (h.loan k hk).2; omega, by omega, by omega⟩

theorem bounds_bad (bd : BankD) (da la : Option Addr) (dc lc : Nat) (loan : Int) (w : World) (hB : BankAt w da la bd) (hS : Short bd) (hf : faultN bd ≠ 0) :
    Calls Try.prog 28 #[.agg #[.int .i64 bd.stocks, .slice da bd.days.length dc, .slice la bd.loans.length lc], .int .i64 loan] w fun e w' => e = .returned (.tuple #[.slice none 0 0, .slice none 0 0, .int .i64 (faultN bd)]) ∧ Below w.heap.size w w' := by
  have hbox : Below w.heap.size w (w.alloc (.cells #[.int .i64 bd.stocks, .slice da bd.days.length dc, .slice la bd.loans.length lc] 38)) := (Below.refl _ _).alloc (Nat.le_refl _) _
  have HBK := Lib.hid (hB.below hbox)
  have HBX := Lib.hid hbox
  have HB0 := Lib.hid hB
  have HSH := Lib.hid hS
  clear hbox hB hS
  go_enter Try.func28, Try.ntmps28
  go_wp2_with fail
  refine (check_any da la dc lc bd _ HBK.out HSH.out).mono ?_
  rintro e w1 ⟨rfl, hb1⟩
  have HB1 := Lib.hid hb1
  have e1 : (faultN bd != 0) = true := by simpa using hf
  clear hb1 hf
  go_wp2
  go_ret3
  exact ⟨rfl, HBX.out.trans (HB1.out.mono (by simp))⟩

theorem BankAt.drew' {w : World} {da la : Option Addr} {b : BankD} (h : BankAt w da la b) : BankAt w.drew da la b := h.below (Below.refl _ _).drew
theorem bounds_range (bd : BankD) (da la : Option Addr) (dc lc : Nat) (loan : Int) (w : World) (hB : BankAt w da la bd) (hS : Short bd) (hf : faultN bd = 0) (hr : inB loan 0 ((bd.loans.length : Int) - 1) = false) :
    Calls Try.prog 28 #[.agg #[.int .i64 bd.stocks, .slice da bd.days.length dc, .slice la bd.loans.length lc], .int .i64 loan] w fun e w' => e = .returned (.tuple #[.slice none 0 0, .slice none 0 0, .int .i64 2]) ∧ Below w.heap.size w w' := by
  have hbox : Below w.heap.size w (w.alloc (.cells #[.int .i64 bd.stocks, .slice da bd.days.length dc, .slice la bd.loans.length lc] 38)) := (Below.refl _ _).alloc (Nat.le_refl _) _
  have HBK := Lib.hid (hB.below hbox)
  have HBX := Lib.hid hbox
  have HB0 := Lib.hid hB
  have HSH := Lib.hid hS
  clear hbox hB hS
  go_enter Try.func28, Try.ntmps28
  go_wp2_with fail
  refine (check_any da la dc lc bd _ HBK.out HSH.out).mono ?_
  rintro e w1 ⟨rfl, hb1⟩
  rw [hf]
  have HB1 := Lib.hid (HBX.out.trans (hb1.mono (by simp)))
  have hw1 : w.heap.size + 1 ≤ w1.heap.size := by have := hb1.size; simpa using this
  have hx0 : w1.heap[w.heap.size]? = some (.cells #[.int .i64 bd.stocks, .slice da bd.days.length dc, .slice la bd.loans.length lc] 38 (0, 0)) := heap_of_below hb1 (heap_alloc_new w _)
  have HX0 := Lib.hid hx0
  have u0 : w1.cell? ⟨w.heap.size, 0, none⟩ = some (.int .i64 bd.stocks) := (cell_of_heap hx0).trans rfl
  have u1 : w1.cell? ⟨w.heap.size, 1, none⟩ = some (.slice da bd.days.length dc) := (cell_of_heap hx0).trans rfl
  have u2 : w1.cell? ⟨w.heap.size, 2, none⟩ = some (.slice la bd.loans.length lc) := (cell_of_heap hx0).trans rfl
  clear hb1 hx0
  have hv := valid_of hf
  have HV := Lib.hid hv
  obtain ⟨hd1, hd2⟩ := hv.days
  have hl1 := hv.loans
  have HF := Lib.hid hf
  clear hf hv
  have HSP : Hid (spotB bd.loans.length bd.days.length loan 0 = false) := by show spotB _ _ _ _ = false; simp [spotB, hr]
  clear hr
  go_wp2_with fail
  refine (spot_any bd.stocks da la bd.days.length dc bd.loans.length lc loan 0 _ (by omega) (by omega)).mono ?_
  rintro e w2 ⟨rfl, hb2⟩
  rw [HSP.out]
  have HB2 := Lib.hid hb2
  clear hb2
  go_wp2
  go_ret3
  exact ⟨rfl, HB1.out.trans (HB2.out.mono (by omega))⟩
set_option maxRecDepth 100000 in
set_option maxHeartbeats 2000000 in
theorem bounds_ok (bd : BankD) (da la : Option Addr) (dc lc : Nat) (i : Nat) (w : World) (hB : BankAt w da la bd) (hS : Short bd) (hf : faultN bd = 0) (hi : i < bd.loans.length) (hdc : bd.days.length ≤ dc) :
    Calls Try.prog 28 #[.agg #[.int .i64 bd.stocks, .slice da bd.days.length dc, .slice la bd.loans.length lc], .int .i64 i] w fun e w' => ∃ a c a' c', e = .returned (.tuple #[.slice a bd.days.length c, .slice a' bd.days.length c', .int .i64 0]) ∧ RngsAt w' a (debtsL bd i) ∧ RngsAt w' a' (callsL bd i) ∧
      (∀ b off sp, a = some ⟨b, off, sp⟩ → w.heap.size ≤ b) ∧ (∀ b off sp, a' = some ⟨b, off, sp⟩ → w.heap.size ≤ b) ∧ Below w.heap.size w w' := by
  have HDC := Lib.hid hdc
  have hbox : Below w.heap.size w (w.alloc (.cells #[.int .i64 bd.stocks, .slice da bd.days.length dc, .slice la bd.loans.length lc] 38)) := (Below.refl _ _).alloc (Nat.le_refl _) _
  have HBK := Lib.hid (hB.below hbox)
  have HBX := Lib.hid hbox
  have HB0 := Lib.hid hB
  have HSH := Lib.hid hS
  clear hbox hB hS
  go_enter Try.func28, Try.ntmps28
  go_wp2_with fail
  refine (check_any da la dc lc bd _ HBK.out HSH.out).mono ?_
  rintro e w1 ⟨rfl, hb1⟩
  rw [hf]
  have HB1 := Lib.hid (HBX.out.trans (hb1.mono (by simp)))
  have hw1 : w.heap.size + 1 ≤ w1.heap.size := by have := hb1.size; simpa using this
  have hx0 : w1.heap[w.heap.size]? = some (.cells #[.int .i64 bd.stocks, .slice da bd.days.length dc, .slice la bd.loans.length lc] 38 (0, 0)) := heap_of_below hb1 (heap_alloc_new w _)
  have HX0 := Lib.hid hx0
  have u0 : w1.cell? ⟨w.heap.size, 0, none⟩ = some (.int .i64 bd.stocks) := (cell_of_heap hx0).trans rfl
  have u1 : w1.cell? ⟨w.heap.size, 1, none⟩ = some (.slice da bd.days.length dc) := (cell_of_heap hx0).trans rfl
  have u2 : w1.cell? ⟨w.heap.size, 2, none⟩ = some (.slice la bd.loans.length lc) := (cell_of_heap hx0).trans rfl
  clear hb1 hx0
  have hv := valid_of hf
  have HV := Lib.hid hv
  obtain ⟨hd1, hd2⟩ := hv.days
  have hl1 := hv.loans
  have HF := Lib.hid hf
  clear hf hv
  have HSP : Hid (spotB bd.loans.length bd.days.length i 0 = true) := by
    show spotB _ _ _ _ = true
    simp [spotB, inB]; omega
  go_wp2_with fail
  refine (spot_any bd.stocks da la bd.days.length dc bd.loans.length lc i 0 _ (by omega) (by omega)).mono ?_
  rintro e w2 ⟨rfl, hb2⟩
  rw [HSP.out]
  have HB2 := Lib.hid (HB1.out.trans (hb2.mono (by omega)))
  have HX2 := Lib.hid (heap_of_below hb2 HX0.out)
  have hw2 : w1.heap.size ≤ w2.heap.size := hb2.size
  replace u0 := cell_below hb2 u0
  replace u1 := cell_below hb2 u1
  replace u2 := cell_below hb2 u2
  clear hb2
  go_wp2
  go_loopw [4, 5, 8, 22] (fun dv' cv' _ j wr => ∃ (k : Nat) (dv cv : Value), dv = dv' ∧ cv = cv' ∧ k ≤ bd.days.length ∧ j = .int .i64 k ∧ OwnL rngK wr (w.heap.size + 1) dv ((debtsL bd i).take k) ∧ OwnL rngK wr (w.heap.size + 1) cv ((callsL bd i).take k) ∧ (∀ g, dv.ownBlock = some g → cv.ownBlock ≠ some g) ∧
    Below w.heap.size w wr ∧ wr.heap[w.heap.size]? = some (.cells #[.int .i64 bd.stocks, .slice da bd.days.length dc, .slice la bd.loans.length lc] 38 (0, 0))) (fun _ _ _ j _ => bd.days.length - (intOf j).toNat)
  case atStart => exact ⟨0, _, _, rfl, rfl, Nat.zero_le _, rfl, OwnL.nil _ _ _, OwnL.nil _ _ _, (fun g h => by cases h), HB2.out, HX2.out⟩
  case round =>
    obtain ⟨k, dv, cv, rfl, rfl, hk, rfl, hod, hoc, hsep, hbw, hx⟩ := hrel
    have HOD := Lib.hid hod; have HOC := Lib.hid hoc; have HSEP := Lib.hid hsep; have HBW := Lib.hid hbw; have HX := Lib.hid hx
    have u0 : wr.cell? ⟨w.heap.size, 0, none⟩ = some (.int .i64 bd.stocks) := (cell_of_heap hx).trans rfl
    have u1 : wr.cell? ⟨w.heap.size, 1, none⟩ = some (.slice da bd.days.length dc) := (cell_of_heap hx).trans rfl
    have u2 : wr.cell? ⟨w.heap.size, 2, none⟩ = some (.slice la bd.loans.length lc) := (cell_of_heap hx).trans rfl
    have lw := heap_lt hx
    clear hod hoc hsep hbw hx
    by_cases hlt : k < bd.days.length
    · have HBR := Lib.hid (HB0.out.below HBW.out)
      have HLK1 : Hid (((debtsL bd i).take k).length = k) := by show _ = _; simp [debtsL]; omega
      have HLK2 : Hid (((callsL bd i).take k).length = k) := by show _ = _; simp [callsL]; omega
      have ND : Hid (some w.heap.size ≠ dv.ownBlock) := fun e => by have := (HOD.out.lt _ e.symm).1; omega
      have NC : Hid (some w.heap.size ≠ cv.ownBlock) := fun e => by have := (HOC.out.lt _ e.symm).1; omega
      go_wp2_with fail
      refine wp_region_plan (fun w' => w'.cell? ⟨w.heap.size, 0, none⟩ = some (.int .i64 bd.stocks) ∧ w'.cell? ⟨w.heap.size, 1, none⟩ = some (.slice da bd.days.length dc) ∧ w'.cell? ⟨w.heap.size, 2, none⟩ = some (.slice la bd.loans.length lc))
        [(0, 0), (1, 1), (2, 0), (3, 0), (4, 0), (8, 0), (9, 1), (10, 0), (11, 0), (12, 0), (5, 2), (6, 2), (7, 2), (13, 3), (14, 3), (15, 3), (16, 0), (17, 0)] (by kernel_rfl) (by kernel_rfl) ⟨u0, u1, u2⟩ ?_
      repeat (first
        | (refine plan_look0 (v := ?_) rfl rfl ?_ ?_; rotate_left; focus (intro w'; go_simp; (try with_reducible rfl)); (try simp only [Act.put, List.setIfInBounds_toArray, List.set_cons_zero, List.set_cons_succ]))
        | (refine plan_look1 (v := ?_) rfl rfl ?_ ?_; rotate_left; focus (intro w' hSw; (try dsimp only at hSw); go_simp; (try with_reducible rfl)); (try simp only [Act.put, List.setIfInBounds_toArray, List.set_cons_zero, List.set_cons_succ])))
      refine plan_do2 (by rfl) (fun K hK => ?_)
      go_simp
      refine (debts_any bd da la dc lc i k _ HV.out HBR.out.drew' hlt hi HDC.out).mono ?_
      rintro e x1 ⟨rfl, hb2⟩
      have v0 := cell_below hb2 u0
      have v1 := cell_below hb2 u1
      have v2 := cell_below hb2 u2
      have HB2 := Lib.hid (below_undrew hb2)
      have hs2 : wr.heap.size ≤ x1.heap.size := hb2.size
      clear hb2
      go_wp2_with fail
      refine hK.out _ _ ⟨v0, v1, v2⟩ ?_
      clear hK K
      (try simp only [Act.put, List.setIfInBounds_toArray, List.set_cons_zero, List.set_cons_succ])
      refine plan_do2 (by rfl) (fun K hK => ?_)
      go_simp
      refine hK.out _ _ ⟨cell_al v0, cell_al v1, cell_al v2⟩ ?_
      clear hK K
      (try simp only [Act.put, List.setIfInBounds_toArray, List.set_cons_zero, List.set_cons_succ])
      refine plan_do2 (by rfl) (fun K hK => ?_)
      refine step_app (K := rngK) (by rfl) _ _ (by rfl) (w.heap.size + 1) dv ((debtsL bd i).take k) k HLK1.out (by rfl) ((HOD.out.below HB2.out).alloc _) x1.heap.size (debtsN bd i k) [.int .i64 (debtsN bd i k).lo, .int .i64 (debtsN bd i k).hi] (by rfl) (heap_alloc_new x1 _) rfl (fun b h => h.elim) (by omega) (by simp; omega) ?_
      intro g1 cap1 x3 hown3 hgrow3 hat3 hlt3
      have y0 := cell_grown hgrow3 (cell_al v0) ND.out
      have y1 := cell_grown hgrow3 (cell_al v1) ND.out
      have y2 := cell_grown hgrow3 (cell_al v2) ND.out
      have HOWN3 := Lib.hid hown3; have HGR3 := Lib.hid hgrow3; have HAT3 := Lib.hid hat3
      have HOC3 := Lib.hid (((HOC.out.below HB2.out).alloc (.cells #[.int .i64 (debtsN bd i k).lo, .int .i64 (debtsN bd i k).hi] 82)).grown hgrow3 (fun g h => .inr ⟨HSEP.out g h, rfl⟩))
      have hs3 : x1.heap.size + 1 ≤ x3.heap.size := by have := hgrow3.size; simpa using this
      have HBK3 : Hid (BankAt x3 da la bd) := by
        refine HB0.out.below ((((HBW.out.trans (HB2.out.mono (by omega))).alloc (by omega) _).grown hgrow3 (by simp; omega) (fun g h => by have := (HOD.out.lt g h).1; omega)))
      clear hown3 hgrow3 hat3
      refine hK.out _ _ ⟨y0, y1, y2⟩ ?_
      clear hK K
      (try simp only [Act.put, List.setIfInBounds_toArray, List.set_cons_zero, List.set_cons_succ])
      refine plan_do3 (by rfl) (fun K hK => ?_)
      go_simp
      refine (calls_any bd da la dc lc i k _ HV.out HBK3.out hlt hi HDC.out).mono ?_
      rintro e x4 ⟨rfl, hb4⟩
      have HB4 := Lib.hid hb4
      have hs4 : x3.heap.size ≤ x4.heap.size := hb4.size
      clear hb4
      go_wp2_with fail
      refine hK.out _ _ ?_
      clear hK K
      (try simp only [Act.put, List.setIfInBounds_toArray, List.set_cons_zero, List.set_cons_succ])
      refine plan_do3 (by rfl) (fun K hK => ?_)
      go_simp
      refine hK.out _ _ ?_
      clear hK K
      (try simp only [Act.put, List.setIfInBounds_toArray, List.set_cons_zero, List.set_cons_succ])
      refine plan_do3 (by rfl) (fun K hK => ?_)
      refine step_app (K := rngK) (by rfl) _ _ (by rfl) (w.heap.size + 1) cv ((callsL bd i).take k) k HLK2.out (by rfl) ((HOC3.out.below HB4.out).alloc _) x4.heap.size (callsN bd i k) [.int .i64 (callsN bd i k).lo, .int .i64 (callsN bd i k).hi] (by rfl) (heap_alloc_new x4 _) rfl (fun b h => h.elim) (by omega) (by simp; omega) ?_
      intro g2 cap2 x6 hown6 hgrow6 hat6 hlt6
      have HOWN6 := Lib.hid hown6; have HGR6 := Lib.hid hgrow6; have HAT6 := Lib.hid hat6
      clear hown6 hgrow6 hat6
      refine hK.out _ _ ?_
      clear hK K
      (try simp only [Act.put, List.setIfInBounds_toArray, List.set_cons_zero, List.set_cons_succ])
      repeat (first
        | (refine plan_look0 (v := ?_) rfl rfl ?_ ?_; rotate_left; focus (intro w'; go_simp; (try with_reducible rfl)); (try simp only [Act.put, List.setIfInBounds_toArray, List.set_cons_zero, List.set_cons_succ]))
        | (refine plan_look1 (v := ?_) rfl rfl ?_ ?_; rotate_left; focus (intro w' hSw; (try dsimp only at hSw); go_simp; (try with_reducible rfl)); (try simp only [Act.put, List.setIfInBounds_toArray, List.set_cons_zero, List.set_cons_succ])))
      refine plan_end ?_
      have HNB : Hid (Below w.heap.size w x6) := by
        have h1 : Below w.heap.size w x3 := ((HBW.out.trans (HB2.out.mono (by omega))).alloc (by omega) _).grown HGR3.out (by simp; omega) (fun g h => by have := (HOD.out.lt g h).1; omega)
        exact ((h1.trans (HB4.out.mono (by omega))).alloc (by omega) _).grown HGR6.out (by simp; omega) (fun g h => by have := (HOC.out.lt g h).1; omega)
      have HNX : Hid (x6.heap[w.heap.size]? = some (.cells #[.int .i64 bd.stocks, .slice da bd.days.length dc, .slice la bd.loans.length lc] 38 (0, 0))) := heap_app HGR6.out (heap_of_below HB4.out (heap_app HGR3.out (heap_of_below HB2.out HX.out) (by omega) ND.out)) (by omega) NC.out
      have HN1 : Hid (OwnL rngK x6 (w.heap.size + 1) (.slice (some ⟨g1, 0, none⟩) (k + 1) cap1) ((debtsL bd i).take (k + 1))) := by
        show OwnL _ _ _ _ _
        unfold debtsL
        rw [range_map_succ _ _ _ hlt]
        exact (((HOWN3.out.below HB4.out).alloc _).grown HGR6.out (fun g h => .inr ⟨fun e => by
            simp only [Value.ownBlock, Option.some.injEq] at e
            subst e
            rcases HAT3.out with h3 | h3
            · exact HSEP.out _ h3 h
            · have := (HOC.out.lt _ h).2; simp at h3; omega, rfl⟩))
      have HN2 : Hid (OwnL rngK x6 (w.heap.size + 1) (.slice (some ⟨g2, 0, none⟩) (k + 1) cap2) ((callsL bd i).take (k + 1))) := by
        show OwnL _ _ _ _ _
        unfold callsL
        rw [range_map_succ _ _ _ hlt]
        exact HOWN6.out
      have HN3 : Hid (∀ g, Value.ownBlock (.slice (some ⟨g1, 0, none⟩) (k + 1) cap1) = some g → Value.ownBlock (.slice (some ⟨g2, 0, none⟩) (k + 1) cap2) ≠ some g) := fun g h h' => by
        simp only [Value.ownBlock, Option.some.injEq] at h h'
        subst h
        subst h'
        rcases HAT6.out with h6 | h6
        · rcases HAT3.out with h3 | h3
          · exact HSEP.out _ h3 h6
          · have := (HOC.out.lt _ h6).2; simp at h3; omega
        · have := HB4.out.size; simp at h6; omega
      go_wp2
      go_roundw
      case rel => exact ⟨k + 1, _, _, rfl, rfl, by omega, by go_num, HN1.out, HN2.out, HN3.out, HNB.out, HNX.out⟩
      case measure => simp [intOf]; omega
    · have H1 := Lib.hid HOD.out
      have H2 := Lib.hid HOC.out
      rw [List.take_of_length_le (by simp [debtsL]; omega)] at H1
      rw [List.take_of_length_le (by simp [callsL]; omega)] at H2
      obtain ⟨a, c, e1, hr1, hf1⟩ := H1.out.rngs
      obtain ⟨a', c', e2, hr2, hf2⟩ := H2.out.rngs
      have HR1 := Lib.hid hr1; have HR2 := Lib.hid hr2; have HF1 := Lib.hid hf1; have HF2 := Lib.hid hf2
      have hl5 : (debtsL bd i).length = bd.days.length := by simp [debtsL]
      have hl6 : (callsL bd i).length = bd.days.length := by simp [callsL]
      rw [hl5] at e1
      rw [hl6] at e2
      clear hr1 hr2 hf1 hf2 hl5 hl6
      subst e1 e2
      go_wp2
      go_ret3
      exact ⟨a, c, a', c', rfl, HR1.out, HR2.out, fun b off sp e => by have := (HF1.out b off sp e).1; omega, fun b off sp e => by have := (HF2.out b off sp e).1; omega, HBW.out⟩
end Go.Proofs.Ytfiacjdkdjkiiaa
