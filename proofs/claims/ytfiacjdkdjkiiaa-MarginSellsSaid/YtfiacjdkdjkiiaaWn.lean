/- The walk over ref.IsTruth. -/
import Derived.Test.YtfiacjdkdjkiiaaGBs
import Derived.Test.YtfiacjdkdjkiiaaGPl
import Derived.Test.YtfiacjdkdjkiiaaGRd
import Derived.Deep.DrawnRows
namespace Go.Proofs.Ytfiacjdkdjkiiaa
open Go.RowKit
set_option linter.unusedVariables false
set_option linter.unusedSimpArgs false
attribute [local go_sem ↓] Go.wp_at_zero Go.wp_at_succ
theorem coh_n {w : World} {b k : Nat} {cs : Array Value} {T : TypeId} {fr : Nat × Nat} (h : w.heap[b]? = some (.cells cs T fr)) : w.cell? ⟨b, k, none⟩ = cs[k]? := by
  simp [World.cell?, h]
theorem hlt_n {w : World} {b : Nat} {o : Obj} (h : w.heap[b]? = some o) : b < w.heap.size := by
  rcases Nat.lt_or_ge b w.heap.size with h' | h'
  · exact h'
  · rw [Array.getElem?_eq_none h'] at h; cases h
theorem aln_n {w : World} {o : Obj} {n : Nat} (hn : n = w.heap.size) : (w.alloc o).heap[n]? = some o := by subst hn; exact heap_alloc_new _ _
theorem alo_n {w : World} {o x : Obj} {n : Nat} (h : w.heap[n]? = some x) : (w.alloc o).heap[n]? = some x := (Below.heap_alloc _ _ _ (hlt_n h)).trans h
theorem istruth_len (bd : BankD) (da la : Option Addr) (dc lc : Nat) (t : TruthD) (pa ra : Option Addr) (pc rc : Nat) (w : World) (hv : Valid bd) (hB : BankAt w da la bd) (hT : TruthAt w pa ra t) (hp : t.prices.length ≤ 1000) (hr : t.rates.length ≤ 1000) (hin : ∀ k, k < t.prices.length → (t.prices.getD k []).length ≤ 1000) (hl : ¬ (t.prices.length = bd.days.length ∧ t.rates.length = bd.days.length)) :
    Calls Try.prog 24 #[.agg #[.int .i64 bd.stocks, .slice da bd.days.length dc, .slice la bd.loans.length lc], .agg #[.slice pa t.prices.length pc, .slice ra t.rates.length rc]] w fun e w' => e = .returned (.bool (truthB bd t)) ∧ Below w.heap.size w w' := by
  have HF : Hid (truthB bd t = false) := by
    show truthB bd t = false
    by_cases h1 : t.prices.length = bd.days.length
    · have h2 : ¬ t.rates.length = bd.days.length := fun e => hl ⟨h1, e⟩
      simp [truthB, h2]
    · simp [truthB, h1]
  by_cases h1 : t.prices.length = bd.days.length
  · have h2 : ¬ t.rates.length = bd.days.length := fun e => hl ⟨h1, e⟩
    have e1 : ((t.prices.length : Int) != (bd.days.length : Int)) = false := by simp; omega
    have e2 : ((t.rates.length : Int) != (bd.days.length : Int)) = true := by simp; omega
    clear h1 h2 hl hB hT hin
    go_enter Try.func24, Try.ntmps24
    go_wp2
    go_ret
    exact ⟨ret_bool HF.out.symm, two_boxes⟩
  · have e1 : ((t.prices.length : Int) != (bd.days.length : Int)) = true := by simp; omega
    clear h1 hl hB hT hin
    go_enter Try.func24, Try.ntmps24
    go_wp2
    go_ret
    exact ⟨ret_bool HF.out.symm, two_boxes⟩
set_option maxRecDepth 100000 in
set_option maxHeartbeats 2000000 in
theorem istruth_any (bd : BankD) (da la : Option Addr) (dc lc : Nat) (t : TruthD) (pa ra : Option Addr) (pc rc : Nat) (w : World) (hv : Valid bd) (hB : BankAt w da la bd) (hT : TruthAt w pa ra t) (hp : t.prices.length ≤ 1000) (hr : t.rates.length ≤ 1000) (hin : ∀ k, k < t.prices.length → (t.prices.getD k []).length ≤ 1000) (h1 : t.prices.length = bd.days.length) (h2 : t.rates.length = bd.days.length) :
    Calls Try.prog 24 #[.agg #[.int .i64 bd.stocks, .slice da bd.days.length dc, .slice la bd.loans.length lc], .agg #[.slice pa t.prices.length pc, .slice ra t.rates.length rc]] w fun e w' => e = .returned (.bool (truthB bd t)) ∧ Below w.heap.size w w' := by
  have e1 : ((t.prices.length : Int) != (bd.days.length : Int)) = false := by simp; omega
  have e2 : ((t.rates.length : Int) != (bd.days.length : Int)) = false := by simp; omega
  have H1 := Lib.hid h1; have H2 := Lib.hid h2
  clear h1 h2
  have HB0 := Lib.hid hB; have HT0 := Lib.hid hT; have HIN := Lib.hid hin; have HV := Lib.hid hv
  have hd4 := hv.days
  have hst := hv.st
  have HBL := Lib.hid (two_boxes (w := w) (o1 := .cells #[.int .i64 bd.stocks, .slice da bd.days.length dc, .slice la bd.loans.length lc] 25) (o2 := .cells #[.slice pa t.prices.length pc, .slice ra t.rates.length rc] 29))
  clear hB hT hin hv
  have hx0 : ((w.alloc (.cells #[.int .i64 bd.stocks, .slice da bd.days.length dc, .slice la bd.loans.length lc] 25)).alloc (.cells #[.slice pa t.prices.length pc, .slice ra t.rates.length rc] 29)).heap[w.heap.size]? = some (.cells #[.int .i64 bd.stocks, .slice da bd.days.length dc, .slice la bd.loans.length lc] 25 (0, 0)) := alo_n (aln_n rfl)
  have hx1 : ((w.alloc (.cells #[.int .i64 bd.stocks, .slice da bd.days.length dc, .slice la bd.loans.length lc] 25)).alloc (.cells #[.slice pa t.prices.length pc, .slice ra t.rates.length rc] 29)).heap[w.heap.size + 1]? = some (.cells #[.slice pa t.prices.length pc, .slice ra t.rates.length rc] 29 (0, 0)) := aln_n (by simp)
  go_enter Try.func24, Try.ntmps24
  go_wp2
  generalize ((w.alloc (.cells #[.int .i64 bd.stocks, .slice da bd.days.length dc, .slice la bd.loans.length lc] 25)).alloc (.cells #[.slice pa t.prices.length pc, .slice ra t.rates.length rc] 29)) = V at *
  have hlo : w.heap.size < w.heap.size + 1 := by omega
  generalize w.heap.size + 1 = nt at *
  generalize hnb : w.heap.size = nb at *
  have HNB := Lib.hid hnb
  clear hnb
  have lnt := hlt_n hx1
  have HX0 := Lib.hid hx0; have HX1 := Lib.hid hx1
  clear hx0 hx1
  go_loopw [5, 6, 7] (fun i _ _ wr => ∃ k : Nat, k ≤ bd.days.length ∧ i = .int .i64 k ∧ Below V.heap.size V wr ∧ (∀ j, j < k → dayOkB bd t j = true)) (fun i _ _ _ => bd.days.length - (intOf i).toNat)
  case atStart => exact ⟨0, Nat.zero_le _, rfl, Below.refl _ _, fun j hj => absurd hj (Nat.not_lt_zero _)⟩
  case round =>
    obtain ⟨k, hk, rfl, hbx, hok⟩ := hrel
    have HBX := Lib.hid hbx; have HOK := Lib.hid hok
    have HBW : Hid (Below w.heap.size w wr) := by
      have h1 : Below w.heap.size w V := by
        have h2 := HBL.out
        rw [← HNB.out] at h2
        exact h2
      exact h1.trans (hbx.mono h1.size)
    have v0 : wr.cell? ⟨nb, 0, none⟩ = some (.int .i64 bd.stocks) := cell_below hbx ((coh_n HX0.out).trans rfl)
    have v1 : wr.cell? ⟨nb, 1, none⟩ = some (.slice da bd.days.length dc) := cell_below hbx ((coh_n HX0.out).trans rfl)
    have v3 : wr.cell? ⟨nt, 1, none⟩ = some (.slice ra t.rates.length rc) := cell_below hbx ((coh_n HX1.out).trans rfl)
    have v4 : wr.cell? ⟨nt, 0, none⟩ = some (.slice pa t.prices.length pc) := cell_below hbx ((coh_n HX1.out).trans rfl)
    have lVw := hbx.size
    clear hbx hok
    by_cases hlt : k < bd.days.length
    · obtain ⟨b, off, qa0, qc0, rfl, c1, c2, c3, hq⟩ := HB0.out.1 k hlt
      obtain ⟨b5, off5, qa, qc, rfl, c5, hrow⟩ := HT0.out.1 k (by have := H1.out; omega)
      obtain ⟨b6, off6, rfl, c6⟩ := HT0.out.2 k (by have := H2.out; omega)
      replace c1 := cell_below HBW.out c1
      replace c2 := cell_below HBW.out c2
      replace c3 := cell_below HBW.out c3
      replace c5 := cell_below HBW.out c5
      replace c6 := cell_below HBW.out c6
      have HQ := Lib.hid (hq.below HBW.out); have HROW := Lib.hid (hrow.below HBW.out)
      have HPL := Lib.hid (HV.out.plen k hlt)
      have HDOK : Hid (dayOkB bd t k = (decide (((t.prices.getD k []).length : Int) = bd.stocks) && inB (t.rates.getD k 0) (bd.days.getD k default).rate.lo (bd.days.getD k default).rate.hi && rowB (bd.days.getD k default) (t.prices.getD k []))) := rfl
      have HTF : Hid (dayOkB bd t k = false → truthB bd t = false) := fun h => by
        have h5 := rangeAll_false (p := dayOkB bd t) hlt h
        simp only [truthB, h5, Bool.and_false]
      have hrl := HIN.out k (by have := H1.out; omega)
      clear hq hrow
      generalize bd.days.getD k default = dd at *
      generalize t.prices.getD k [] = row at *
      generalize t.rates.getD k 0 = rt at *
      have hkp : k < t.prices.length := by have := H1.out; omega
      have hkr : k < t.rates.length := by have := H2.out; omega
      have hk1 : (k : Int) < (bd.days.length : Int) := by omega
      have hk2 : (k : Int) < (t.prices.length : Int) := by omega
      have hk3 : (k : Int) < (t.rates.length : Int) := by omega
      have hk0 : (0 : Int) ≤ (k : Int) := by omega
      have hdk : decide ((k : Int) < (bd.days.length : Int)) = true := by simp; omega
      go_wp2_with fail
      have hWb : Below wr.heap.size wr (wr.alloc (.cells #[.slice qa0 dd.prices.length qc0, .int .i64 dd.rate.lo, .int .i64 dd.rate.hi] 88)) := (Below.refl _ _).alloc (Nat.le_refl _) _
      have hy : (wr.alloc (.cells #[.slice qa0 dd.prices.length qc0, .int .i64 dd.rate.lo, .int .i64 dd.rate.hi] 88)).heap[wr.heap.size]? = some (.cells #[.slice qa0 dd.prices.length qc0, .int .i64 dd.rate.lo, .int .i64 dd.rate.hi] 88 (0, 0)) := aln_n rfl
      generalize wr.alloc (.cells #[.slice qa0 dd.prices.length qc0, .int .i64 dd.rate.lo, .int .i64 dd.rate.hi] 88) = D at *
      have d0 : D.cell? ⟨wr.heap.size, 0, none⟩ = some (.slice qa0 dd.prices.length qc0) := (coh_n hy).trans rfl
      have d1 : D.cell? ⟨wr.heap.size, 1, none⟩ = some (.int .i64 dd.rate.lo) := (coh_n hy).trans rfl
      have d2 : D.cell? ⟨wr.heap.size, 1 + 1, none⟩ = some (.int .i64 dd.rate.hi) := (coh_n hy).trans rfl
      have lD := hlt_n hy
      replace v0 := cell_below hWb v0
      replace v3 := cell_below hWb v3
      replace v4 := cell_below hWb v4
      replace c5 := cell_below hWb c5
      replace c6 := cell_below hWb c6
      have HBWD := Lib.hid (HBW.out.trans (hWb.mono HBW.out.size))
      have HBXD := Lib.hid (HBX.out.trans (hWb.mono lVw))
      have HQD := Lib.hid (HQ.out.below hWb); have HROWD := Lib.hid (HROW.out.below hWb)
      clear hWb hy c1 c2 c3 HBW HBX HQ HROW v1
      have lnd : nt < wr.heap.size := by omega
      generalize wr.heap.size = nd at *
      by_cases g1 : (row.length : Int) = bd.stocks
      case neg =>
        have HTFF : Hid (truthB bd t = false) := HTF.out (by rw [HDOK.out]; simp [g1])
        have e3 : ((row.length : Int) != bd.stocks) = true := by simpa using g1
        clear g1
        go_quiet (fail)
        go_wp2
        go_ret
        exact ⟨ret_bool HTFF.out.symm, below_drewN' HBWD.out _⟩
      have e3 : ((row.length : Int) != bd.stocks) = false := by simpa using g1
      have G1 := Lib.hid g1
      clear g1
      cases g2 : inB rt dd.rate.lo dd.rate.hi
      case false =>
        have HTFF : Hid (truthB bd t = false) := HTF.out (by rw [HDOK.out, g2]; simp)
        have G2 := Lib.hid g2
        clear g2
        refine wp_region_plan (fun w' => w'.cell? ⟨nt, 0, none⟩ = some (.slice (some ⟨b5, off5, none⟩) t.prices.length pc) ∧ w'.cell? ⟨b5, off5 + k, none⟩ = some (.slice qa row.length qc) ∧ w'.cell? ⟨nb, 0, none⟩ = some (.int .i64 bd.stocks) ∧ w'.cell? ⟨nd, 1, none⟩ = some (.int .i64 dd.rate.lo) ∧ w'.cell? ⟨nd, 1 + 1, none⟩ = some (.int .i64 dd.rate.hi) ∧ w'.cell? ⟨nt, 1, none⟩ = some (.slice (some ⟨b6, off6, none⟩) t.rates.length rc) ∧ w'.cell? ⟨b6, off6 + k, none⟩ = some (.int .i64 rt))
          [(0, 0), (1, 1), (2, 0), (3, 0), (4, 1), (5, 0), (6, 0), (7, 1), (8, 0), (9, 0), (10, 0), (11, 1), (12, 0), (13, 0), (14, 1), (15, 0), (16, 0), (17, 1), (18, 0), (19, 0), (20, 1), (21, 3), (22, 0), (23, 0)] (by kernel_rfl) (by kernel_rfl) ⟨v4, c5, v0, d1, d2, v3, c6⟩ ?_
        refine plan_look0 (v := ?_) rfl rfl ?_ ?_
        rotate_left
        focus (intro w'; go_simp; (try with_reducible rfl))
        simp only [Act.put, List.getElem_toArray, List.getElem_cons_zero, List.getElem_cons_succ, List.setIfInBounds_toArray, List.set_cons_zero, List.set_cons_succ]
        refine plan_look1 (v := ?_) rfl rfl ?_ ?_
        rotate_left
        focus (intro w' hSw; (try dsimp only at hSw); go_simp; (try with_reducible rfl))
        simp only [Act.put, List.getElem_toArray, List.getElem_cons_zero, List.getElem_cons_succ, List.setIfInBounds_toArray, List.set_cons_zero, List.set_cons_succ]
        refine plan_look0 (v := ?_) rfl rfl ?_ ?_
        rotate_left
        focus (intro w'; go_simp; (try with_reducible rfl))
        simp only [Act.put, List.getElem_toArray, List.getElem_cons_zero, List.getElem_cons_succ, List.setIfInBounds_toArray, List.set_cons_zero, List.set_cons_succ]
        refine plan_look0 (v := ?_) rfl rfl ?_ ?_
        rotate_left
        focus (intro w'; go_simp; (try with_reducible rfl))
        simp only [Act.put, List.getElem_toArray, List.getElem_cons_zero, List.getElem_cons_succ, List.setIfInBounds_toArray, List.set_cons_zero, List.set_cons_succ]
        refine plan_look1 (v := ?_) rfl rfl ?_ ?_
        rotate_left
        focus (intro w' hSw; (try dsimp only at hSw); go_simp; (try with_reducible rfl))
        simp only [Act.put, List.getElem_toArray, List.getElem_cons_zero, List.getElem_cons_succ, List.setIfInBounds_toArray, List.set_cons_zero, List.set_cons_succ]
        refine plan_look0 (v := ?_) rfl rfl ?_ ?_
        rotate_left
        focus (intro w'; go_simp; (try with_reducible rfl))
        simp only [Act.put, List.getElem_toArray, List.getElem_cons_zero, List.getElem_cons_succ, List.setIfInBounds_toArray, List.set_cons_zero, List.set_cons_succ]
        refine plan_look0 (v := ?_) rfl rfl ?_ ?_
        rotate_left
        focus (intro w'; go_simp; (try with_reducible rfl))
        simp only [Act.put, List.getElem_toArray, List.getElem_cons_zero, List.getElem_cons_succ, List.setIfInBounds_toArray, List.set_cons_zero, List.set_cons_succ]
        refine plan_look1 (v := ?_) rfl rfl ?_ ?_
        rotate_left
        focus (intro w' hSw; (try dsimp only at hSw); go_simp; (try with_reducible rfl))
        simp only [Act.put, List.getElem_toArray, List.getElem_cons_zero, List.getElem_cons_succ, List.setIfInBounds_toArray, List.set_cons_zero, List.set_cons_succ]
        refine plan_look0 (v := ?_) rfl rfl ?_ ?_
        rotate_left
        focus (intro w'; go_simp; (try with_reducible rfl))
        simp only [Act.put, List.getElem_toArray, List.getElem_cons_zero, List.getElem_cons_succ, List.setIfInBounds_toArray, List.set_cons_zero, List.set_cons_succ]
        refine plan_look0 (v := ?_) rfl rfl ?_ ?_
        rotate_left
        focus (intro w'; go_simp; (try with_reducible rfl))
        simp only [Act.put, List.getElem_toArray, List.getElem_cons_zero, List.getElem_cons_succ, List.setIfInBounds_toArray, List.set_cons_zero, List.set_cons_succ]
        refine plan_look0 (v := ?_) rfl (by simp [Region.wanted, yielded]) ?_ ?_
        rotate_left
        focus (intro w'; go_simp; (try with_reducible rfl))
        simp only [Act.put, List.getElem_toArray, List.getElem_cons_zero, List.getElem_cons_succ, List.setIfInBounds_toArray, List.set_cons_zero, List.set_cons_succ]
        refine plan_look1 (v := ?_) rfl (by simp [Region.wanted, yielded]) ?_ ?_
        rotate_left
        focus (intro w' hSw; (try dsimp only at hSw); go_simp; (try with_reducible rfl))
        simp only [Act.put, List.getElem_toArray, List.getElem_cons_zero, List.getElem_cons_succ, List.setIfInBounds_toArray, List.set_cons_zero, List.set_cons_succ]
        refine plan_look0 (v := ?_) rfl (by simp [Region.wanted, yielded]) ?_ ?_
        rotate_left
        focus (intro w'; go_simp; (try with_reducible rfl))
        simp only [Act.put, List.getElem_toArray, List.getElem_cons_zero, List.getElem_cons_succ, List.setIfInBounds_toArray, List.set_cons_zero, List.set_cons_succ]
        refine plan_look0 (v := ?_) rfl (by simp [Region.wanted, yielded]) ?_ ?_
        rotate_left
        focus (intro w'; go_simp; (try with_reducible rfl))
        simp only [Act.put, List.getElem_toArray, List.getElem_cons_zero, List.getElem_cons_succ, List.setIfInBounds_toArray, List.set_cons_zero, List.set_cons_succ]
        refine plan_look1 (v := ?_) rfl (by simp [Region.wanted, yielded]) ?_ ?_
        rotate_left
        focus (intro w' hSw; (try dsimp only at hSw); go_simp; (try with_reducible rfl))
        simp only [Act.put, List.getElem_toArray, List.getElem_cons_zero, List.getElem_cons_succ, List.setIfInBounds_toArray, List.set_cons_zero, List.set_cons_succ]
        refine plan_look0 (v := ?_) rfl (by simp [Region.wanted, yielded]) ?_ ?_
        rotate_left
        focus (intro w'; go_simp; (try with_reducible rfl))
        simp only [Act.put, List.getElem_toArray, List.getElem_cons_zero, List.getElem_cons_succ, List.setIfInBounds_toArray, List.set_cons_zero, List.set_cons_succ]
        refine plan_look0 (v := ?_) rfl (by simp [Region.wanted, yielded]) ?_ ?_
        rotate_left
        focus (intro w'; go_simp; (try with_reducible rfl))
        simp only [Act.put, List.getElem_toArray, List.getElem_cons_zero, List.getElem_cons_succ, List.setIfInBounds_toArray, List.set_cons_zero, List.set_cons_succ]
        refine plan_look1 (v := ?_) rfl (by simp [Region.wanted, yielded]) ?_ ?_
        rotate_left
        focus (intro w' hSw; (try dsimp only at hSw); go_simp; (try with_reducible rfl))
        simp only [Act.put, List.getElem_toArray, List.getElem_cons_zero, List.getElem_cons_succ, List.setIfInBounds_toArray, List.set_cons_zero, List.set_cons_succ]
        refine plan_look0 (v := ?_) rfl (by simp [Region.wanted, yielded]) ?_ ?_
        rotate_left
        focus (intro w'; go_simp; (try with_reducible rfl))
        simp only [Act.put, List.getElem_toArray, List.getElem_cons_zero, List.getElem_cons_succ, List.setIfInBounds_toArray, List.set_cons_zero, List.set_cons_succ]
        refine plan_look0 (v := ?_) rfl (by simp [Region.wanted, yielded]) ?_ ?_
        rotate_left
        focus (intro w'; go_simp; (try with_reducible rfl))
        simp only [Act.put, List.getElem_toArray, List.getElem_cons_zero, List.getElem_cons_succ, List.setIfInBounds_toArray, List.set_cons_zero, List.set_cons_succ]
        refine plan_look1 (v := ?_) rfl (by simp [Region.wanted, yielded]) ?_ ?_
        rotate_left
        focus (intro w' hSw; (try dsimp only at hSw); go_simp; (try with_reducible rfl))
        simp only [Act.put, List.getElem_toArray, List.getElem_cons_zero, List.getElem_cons_succ, List.setIfInBounds_toArray, List.set_cons_zero, List.set_cons_succ]
        refine plan_do3 (by rfl) (fun K hK => ?_)
        go_simp
        refine (in_any rt dd.rate.lo dd.rate.hi _).mono ?_
        rintro e x2 ⟨rfl, rfl⟩
        rw [G2.out]
        go_wp2_with fail
        refine hK.out _ _ ?_
        clear hK K
        (try simp only [Act.put, List.getElem_toArray, List.getElem_cons_zero, List.getElem_cons_succ, List.setIfInBounds_toArray, List.set_cons_zero, List.set_cons_succ])
        refine plan_look0 (v := ?_) rfl (by simp [Region.wanted, yielded]) ?_ ?_
        rotate_left
        focus (intro w'; go_simp; (try with_reducible rfl))
        simp only [Act.put, List.getElem_toArray, List.getElem_cons_zero, List.getElem_cons_succ, List.setIfInBounds_toArray, List.set_cons_zero, List.set_cons_succ]
        refine plan_look0 (v := ?_) rfl rfl ?_ ?_
        rotate_left
        focus (intro w'; go_simp; (try with_reducible rfl))
        simp only [Act.put, List.getElem_toArray, List.getElem_cons_zero, List.getElem_cons_succ, List.setIfInBounds_toArray, List.set_cons_zero, List.set_cons_succ]
        refine plan_end ?_
        go_wp2
        go_ret
        exact ⟨ret_bool HTFF.out.symm, HBWD.out.drew⟩
      have G2 := Lib.hid g2
      clear g2
      refine wp_region_plan (fun w' => w'.cell? ⟨nt, 0, none⟩ = some (.slice (some ⟨b5, off5, none⟩) t.prices.length pc) ∧ w'.cell? ⟨b5, off5 + k, none⟩ = some (.slice qa row.length qc) ∧ w'.cell? ⟨nb, 0, none⟩ = some (.int .i64 bd.stocks) ∧ w'.cell? ⟨nd, 1, none⟩ = some (.int .i64 dd.rate.lo) ∧ w'.cell? ⟨nd, 1 + 1, none⟩ = some (.int .i64 dd.rate.hi) ∧ w'.cell? ⟨nt, 1, none⟩ = some (.slice (some ⟨b6, off6, none⟩) t.rates.length rc) ∧ w'.cell? ⟨b6, off6 + k, none⟩ = some (.int .i64 rt))
        [(0, 0), (1, 1), (2, 0), (3, 0), (4, 1), (5, 0), (6, 0), (7, 1), (8, 0), (9, 0), (10, 0), (11, 1), (12, 0), (13, 0), (14, 1), (15, 0), (16, 0), (17, 1), (18, 0), (19, 0), (20, 1), (21, 3), (22, 0), (23, 0)] (by kernel_rfl) (by kernel_rfl) ⟨v4, c5, v0, d1, d2, v3, c6⟩ ?_
      refine plan_look0 (v := ?_) rfl rfl ?_ ?_
      rotate_left
      focus (intro w'; go_simp; (try with_reducible rfl))
      simp only [Act.put, List.getElem_toArray, List.getElem_cons_zero, List.getElem_cons_succ, List.setIfInBounds_toArray, List.set_cons_zero, List.set_cons_succ]
      refine plan_look1 (v := ?_) rfl rfl ?_ ?_
      rotate_left
      focus (intro w' hSw; (try dsimp only at hSw); go_simp; (try with_reducible rfl))
      simp only [Act.put, List.getElem_toArray, List.getElem_cons_zero, List.getElem_cons_succ, List.setIfInBounds_toArray, List.set_cons_zero, List.set_cons_succ]
      refine plan_look0 (v := ?_) rfl rfl ?_ ?_
      rotate_left
      focus (intro w'; go_simp; (try with_reducible rfl))
      simp only [Act.put, List.getElem_toArray, List.getElem_cons_zero, List.getElem_cons_succ, List.setIfInBounds_toArray, List.set_cons_zero, List.set_cons_succ]
      refine plan_look0 (v := ?_) rfl rfl ?_ ?_
      rotate_left
      focus (intro w'; go_simp; (try with_reducible rfl))
      simp only [Act.put, List.getElem_toArray, List.getElem_cons_zero, List.getElem_cons_succ, List.setIfInBounds_toArray, List.set_cons_zero, List.set_cons_succ]
      refine plan_look1 (v := ?_) rfl rfl ?_ ?_
      rotate_left
      focus (intro w' hSw; (try dsimp only at hSw); go_simp; (try with_reducible rfl))
      simp only [Act.put, List.getElem_toArray, List.getElem_cons_zero, List.getElem_cons_succ, List.setIfInBounds_toArray, List.set_cons_zero, List.set_cons_succ]
      refine plan_look0 (v := ?_) rfl rfl ?_ ?_
      rotate_left
      focus (intro w'; go_simp; (try with_reducible rfl))
      simp only [Act.put, List.getElem_toArray, List.getElem_cons_zero, List.getElem_cons_succ, List.setIfInBounds_toArray, List.set_cons_zero, List.set_cons_succ]
      refine plan_look0 (v := ?_) rfl rfl ?_ ?_
      rotate_left
      focus (intro w'; go_simp; (try with_reducible rfl))
      simp only [Act.put, List.getElem_toArray, List.getElem_cons_zero, List.getElem_cons_succ, List.setIfInBounds_toArray, List.set_cons_zero, List.set_cons_succ]
      refine plan_look1 (v := ?_) rfl rfl ?_ ?_
      rotate_left
      focus (intro w' hSw; (try dsimp only at hSw); go_simp; (try with_reducible rfl))
      simp only [Act.put, List.getElem_toArray, List.getElem_cons_zero, List.getElem_cons_succ, List.setIfInBounds_toArray, List.set_cons_zero, List.set_cons_succ]
      refine plan_look0 (v := ?_) rfl rfl ?_ ?_
      rotate_left
      focus (intro w'; go_simp; (try with_reducible rfl))
      simp only [Act.put, List.getElem_toArray, List.getElem_cons_zero, List.getElem_cons_succ, List.setIfInBounds_toArray, List.set_cons_zero, List.set_cons_succ]
      refine plan_look0 (v := ?_) rfl rfl ?_ ?_
      rotate_left
      focus (intro w'; go_simp; (try with_reducible rfl))
      simp only [Act.put, List.getElem_toArray, List.getElem_cons_zero, List.getElem_cons_succ, List.setIfInBounds_toArray, List.set_cons_zero, List.set_cons_succ]
      refine plan_look0 (v := ?_) rfl (by simp [Region.wanted, yielded]) ?_ ?_
      rotate_left
      focus (intro w'; go_simp; (try with_reducible rfl))
      simp only [Act.put, List.getElem_toArray, List.getElem_cons_zero, List.getElem_cons_succ, List.setIfInBounds_toArray, List.set_cons_zero, List.set_cons_succ]
      refine plan_look1 (v := ?_) rfl (by simp [Region.wanted, yielded]) ?_ ?_
      rotate_left
      focus (intro w' hSw; (try dsimp only at hSw); go_simp; (try with_reducible rfl))
      simp only [Act.put, List.getElem_toArray, List.getElem_cons_zero, List.getElem_cons_succ, List.setIfInBounds_toArray, List.set_cons_zero, List.set_cons_succ]
      refine plan_look0 (v := ?_) rfl (by simp [Region.wanted, yielded]) ?_ ?_
      rotate_left
      focus (intro w'; go_simp; (try with_reducible rfl))
      simp only [Act.put, List.getElem_toArray, List.getElem_cons_zero, List.getElem_cons_succ, List.setIfInBounds_toArray, List.set_cons_zero, List.set_cons_succ]
      refine plan_look0 (v := ?_) rfl (by simp [Region.wanted, yielded]) ?_ ?_
      rotate_left
      focus (intro w'; go_simp; (try with_reducible rfl))
      simp only [Act.put, List.getElem_toArray, List.getElem_cons_zero, List.getElem_cons_succ, List.setIfInBounds_toArray, List.set_cons_zero, List.set_cons_succ]
      refine plan_look1 (v := ?_) rfl (by simp [Region.wanted, yielded]) ?_ ?_
      rotate_left
      focus (intro w' hSw; (try dsimp only at hSw); go_simp; (try with_reducible rfl))
      simp only [Act.put, List.getElem_toArray, List.getElem_cons_zero, List.getElem_cons_succ, List.setIfInBounds_toArray, List.set_cons_zero, List.set_cons_succ]
      refine plan_look0 (v := ?_) rfl (by simp [Region.wanted, yielded]) ?_ ?_
      rotate_left
      focus (intro w'; go_simp; (try with_reducible rfl))
      simp only [Act.put, List.getElem_toArray, List.getElem_cons_zero, List.getElem_cons_succ, List.setIfInBounds_toArray, List.set_cons_zero, List.set_cons_succ]
      refine plan_look0 (v := ?_) rfl (by simp [Region.wanted, yielded]) ?_ ?_
      rotate_left
      focus (intro w'; go_simp; (try with_reducible rfl))
      simp only [Act.put, List.getElem_toArray, List.getElem_cons_zero, List.getElem_cons_succ, List.setIfInBounds_toArray, List.set_cons_zero, List.set_cons_succ]
      refine plan_look1 (v := ?_) rfl (by simp [Region.wanted, yielded]) ?_ ?_
      rotate_left
      focus (intro w' hSw; (try dsimp only at hSw); go_simp; (try with_reducible rfl))
      simp only [Act.put, List.getElem_toArray, List.getElem_cons_zero, List.getElem_cons_succ, List.setIfInBounds_toArray, List.set_cons_zero, List.set_cons_succ]
      refine plan_look0 (v := ?_) rfl (by simp [Region.wanted, yielded]) ?_ ?_
      rotate_left
      focus (intro w'; go_simp; (try with_reducible rfl))
      simp only [Act.put, List.getElem_toArray, List.getElem_cons_zero, List.getElem_cons_succ, List.setIfInBounds_toArray, List.set_cons_zero, List.set_cons_succ]
      refine plan_look0 (v := ?_) rfl (by simp [Region.wanted, yielded]) ?_ ?_
      rotate_left
      focus (intro w'; go_simp; (try with_reducible rfl))
      simp only [Act.put, List.getElem_toArray, List.getElem_cons_zero, List.getElem_cons_succ, List.setIfInBounds_toArray, List.set_cons_zero, List.set_cons_succ]
      refine plan_look1 (v := ?_) rfl (by simp [Region.wanted, yielded]) ?_ ?_
      rotate_left
      focus (intro w' hSw; (try dsimp only at hSw); go_simp; (try with_reducible rfl))
      simp only [Act.put, List.getElem_toArray, List.getElem_cons_zero, List.getElem_cons_succ, List.setIfInBounds_toArray, List.set_cons_zero, List.set_cons_succ]
      refine plan_do3 (by rfl) (fun K hK => ?_)
      go_simp
      refine (in_any rt dd.rate.lo dd.rate.hi _).mono ?_
      rintro e x2 ⟨rfl, rfl⟩
      rw [G2.out]
      go_wp2_with fail
      refine hK.out _ _ ?_
      clear hK K
      (try simp only [Act.put, List.getElem_toArray, List.getElem_cons_zero, List.getElem_cons_succ, List.setIfInBounds_toArray, List.set_cons_zero, List.set_cons_succ])
      refine plan_look0 (v := ?_) rfl (by simp [Region.wanted, yielded]) ?_ ?_
      rotate_left
      focus (intro w'; go_simp; (try with_reducible rfl))
      simp only [Act.put, List.getElem_toArray, List.getElem_cons_zero, List.getElem_cons_succ, List.setIfInBounds_toArray, List.set_cons_zero, List.set_cons_succ]
      refine plan_look0 (v := ?_) rfl rfl ?_ ?_
      rotate_left
      focus (intro w'; go_simp; (try with_reducible rfl))
      simp only [Act.put, List.getElem_toArray, List.getElem_cons_zero, List.getElem_cons_succ, List.setIfInBounds_toArray, List.set_cons_zero, List.set_cons_succ]
      refine plan_end ?_
      have HE : Hid (Below D.heap.size D D.drew) := (Below.refl _ _).drew
      go_wp2
      go_loopw [7] (fun i wq => ∃ j : Nat, (j : Int) ≤ bd.stocks ∧ i = .int .i64 j ∧ Below D.heap.size D wq ∧ (∀ l, l < j → inB (row.getD l 0) (dd.prices.getD l default).lo (dd.prices.getD l default).hi = true)) (fun i _ => bd.stocks.toNat - (intOf i).toNat)
      case atStart => exact ⟨0, by omega, rfl, HE.out, fun l hl => absurd hl (Nat.not_lt_zero _)⟩
      case round =>
        obtain ⟨j, hj, rfl, hbq, hjok⟩ := hrel
        have HBQ := Lib.hid hbq; have HJOK := Lib.hid hjok
        have HBWQ := Lib.hid (HBWD.out.trans (hbq.mono HBWD.out.size))
        replace v0 := cell_below hbq v0
        clear hbq hjok
        by_cases hjl : (j : Int) < bd.stocks
        · have hjr : j < row.length := by have := G1.out; omega
          have hjp : j < dd.prices.length := by have := HPL.out; omega
          obtain ⟨b7, off7, rfl, p1⟩ := HROWD.out j hjr
          obtain ⟨b8, off8, rfl, q1, q2⟩ := HQD.out j hjp
          replace v4 := cell_below HBQ.out v4
          replace c5 := cell_below HBQ.out c5
          replace d0 := cell_below HBQ.out d0
          replace p1 := cell_below HBQ.out p1
          replace q1 := cell_below HBQ.out q1
          replace q2 := cell_below HBQ.out q2
          have HJS : Hid (∀ l, l < j + 1 → inB (row.getD j 0) (dd.prices.getD j default).lo (dd.prices.getD j default).hi = true → inB (row.getD l 0) (dd.prices.getD l default).lo (dd.prices.getD l default).hi = true) := fun l hl h => by
            by_cases e : l = j
            · subst e; exact h
            · exact HJOK.out l (by omega)
          have HJF : Hid (inB (row.getD j 0) (dd.prices.getD j default).lo (dd.prices.getD j default).hi = false → truthB bd t = false) := fun h => HTF.out (by
            have h5 := rangeAll_false (p := fun k => inB (row.getD k 0) (dd.prices.getD k default).lo (dd.prices.getD k default).hi) hjp h
            rw [HDOK.out]
            simp only [rowB, h5, Bool.and_false])
          generalize dd.prices.getD j default = rg at *
          generalize row.getD j 0 = pv at *
          have hj1 : (j : Int) < (dd.prices.length : Int) := by omega
          have hj2 : (j : Int) < (row.length : Int) := by omega
          have hj0 : (0 : Int) ≤ (j : Int) := by omega
          have hdj : decide ((j : Int) < bd.stocks) = true := by simpa using hjl
          cases g3 : inB pv rg.lo rg.hi
          · have HTFF : Hid (truthB bd t = false) := HJF.out g3
            have G3 := Lib.hid g3
            clear g3
            go_wp2
            refine wp_region_plan (fun w' => w'.cell? ⟨nt, 0, none⟩ = some (.slice (some ⟨b5, off5, none⟩) t.prices.length pc) ∧ w'.cell? ⟨b5, off5 + k, none⟩ = some (.slice (some ⟨b7, off7, none⟩) row.length qc) ∧ w'.cell? ⟨b7, off7 + j, none⟩ = some (.int .i64 pv) ∧ w'.cell? ⟨nd, 0, none⟩ = some (.slice (some ⟨b8, off8, none⟩) dd.prices.length qc0) ∧ w'.cell? ⟨b8, off8 + j * 2, none⟩ = some (.int .i64 rg.lo) ∧ w'.cell? ⟨b8, off8 + j * 2 + 1, none⟩ = some (.int .i64 rg.hi))
              [(0, 0), (1, 1), (2, 0), (3, 0), (4, 1), (5, 0), (6, 0), (7, 1), (8, 0), (9, 1), (10, 0), (11, 0), (12, 0), (13, 1), (14, 0), (15, 1), (16, 0), (17, 0), (18, 0), (19, 1), (20, 3), (21, 0)] (by kernel_rfl) (by kernel_rfl) ⟨v4, c5, p1, d0, q1, q2⟩ ?_
            repeat (first
              | (refine plan_look0 (v := ?_) rfl rfl ?_ ?_; rotate_left; focus (intro w'; go_simp; (try with_reducible rfl)); (try simp only [Act.put, List.getElem_toArray, List.getElem_cons_zero, List.getElem_cons_succ, List.setIfInBounds_toArray, List.set_cons_zero, List.set_cons_succ]))
              | (refine plan_look1 (v := ?_) rfl rfl ?_ ?_; rotate_left; focus (intro w' hSw; (try dsimp only at hSw); go_simp; (try with_reducible rfl)); (try simp only [Act.put, List.getElem_toArray, List.getElem_cons_zero, List.getElem_cons_succ, List.setIfInBounds_toArray, List.set_cons_zero, List.set_cons_succ])))
            refine plan_do3 (by rfl) (fun K hK => ?_)
            go_simp
            refine (in_any pv rg.lo rg.hi _).mono ?_
            rintro e x3 ⟨rfl, rfl⟩
            rw [G3.out]
            go_wp2_with fail
            refine hK.out _ _ ?_
            clear hK K
            (try simp only [Act.put, List.getElem_toArray, List.getElem_cons_zero, List.getElem_cons_succ, List.setIfInBounds_toArray, List.set_cons_zero, List.set_cons_succ])
            repeat (first
              | (refine plan_look0 (v := ?_) rfl rfl ?_ ?_; rotate_left; focus (intro w'; go_simp; (try with_reducible rfl)); (try simp only [Act.put, List.getElem_toArray, List.getElem_cons_zero, List.getElem_cons_succ, List.setIfInBounds_toArray, List.set_cons_zero, List.set_cons_succ]))
              | (refine plan_look1 (v := ?_) rfl rfl ?_ ?_; rotate_left; focus (intro w' hSw; (try dsimp only at hSw); go_simp; (try with_reducible rfl)); (try simp only [Act.put, List.getElem_toArray, List.getElem_cons_zero, List.getElem_cons_succ, List.setIfInBounds_toArray, List.set_cons_zero, List.set_cons_succ])))
            refine plan_end ?_
            go_wp2
            go_ret
            exact ⟨ret_bool HTFF.out.symm, HBWQ.out.drew⟩
          · have HJT := Lib.hid (fun l hl => HJS.out l hl g3)
            have HEQ := Lib.hid HBQ.out.drew
            have G3 := Lib.hid g3
            clear g3
            go_wp2
            refine wp_region_plan (fun w' => w'.cell? ⟨nt, 0, none⟩ = some (.slice (some ⟨b5, off5, none⟩) t.prices.length pc) ∧ w'.cell? ⟨b5, off5 + k, none⟩ = some (.slice (some ⟨b7, off7, none⟩) row.length qc) ∧ w'.cell? ⟨b7, off7 + j, none⟩ = some (.int .i64 pv) ∧ w'.cell? ⟨nd, 0, none⟩ = some (.slice (some ⟨b8, off8, none⟩) dd.prices.length qc0) ∧ w'.cell? ⟨b8, off8 + j * 2, none⟩ = some (.int .i64 rg.lo) ∧ w'.cell? ⟨b8, off8 + j * 2 + 1, none⟩ = some (.int .i64 rg.hi))
              [(0, 0), (1, 1), (2, 0), (3, 0), (4, 1), (5, 0), (6, 0), (7, 1), (8, 0), (9, 1), (10, 0), (11, 0), (12, 0), (13, 1), (14, 0), (15, 1), (16, 0), (17, 0), (18, 0), (19, 1), (20, 3), (21, 0)] (by kernel_rfl) (by kernel_rfl) ⟨v4, c5, p1, d0, q1, q2⟩ ?_
            repeat (first
              | (refine plan_look0 (v := ?_) rfl rfl ?_ ?_; rotate_left; focus (intro w'; go_simp; (try with_reducible rfl)); (try simp only [Act.put, List.getElem_toArray, List.getElem_cons_zero, List.getElem_cons_succ, List.setIfInBounds_toArray, List.set_cons_zero, List.set_cons_succ]))
              | (refine plan_look1 (v := ?_) rfl rfl ?_ ?_; rotate_left; focus (intro w' hSw; (try dsimp only at hSw); go_simp; (try with_reducible rfl)); (try simp only [Act.put, List.getElem_toArray, List.getElem_cons_zero, List.getElem_cons_succ, List.setIfInBounds_toArray, List.set_cons_zero, List.set_cons_succ])))
            refine plan_do3 (by rfl) (fun K hK => ?_)
            go_simp
            refine (in_any pv rg.lo rg.hi _).mono ?_
            rintro e x3 ⟨rfl, rfl⟩
            rw [G3.out]
            go_wp2_with fail
            refine hK.out _ _ ?_
            clear hK K
            (try simp only [Act.put, List.getElem_toArray, List.getElem_cons_zero, List.getElem_cons_succ, List.setIfInBounds_toArray, List.set_cons_zero, List.set_cons_succ])
            repeat (first
              | (refine plan_look0 (v := ?_) rfl rfl ?_ ?_; rotate_left; focus (intro w'; go_simp; (try with_reducible rfl)); (try simp only [Act.put, List.getElem_toArray, List.getElem_cons_zero, List.getElem_cons_succ, List.setIfInBounds_toArray, List.set_cons_zero, List.set_cons_succ]))
              | (refine plan_look1 (v := ?_) rfl rfl ?_ ?_; rotate_left; focus (intro w' hSw; (try dsimp only at hSw); go_simp; (try with_reducible rfl)); (try simp only [Act.put, List.getElem_toArray, List.getElem_cons_zero, List.getElem_cons_succ, List.setIfInBounds_toArray, List.set_cons_zero, List.set_cons_succ])))
            refine plan_end ?_
            go_wp2
            go_roundw
            case rel => exact ⟨j + 1, by omega, by go_num, HEQ.out, HJT.out⟩
            case measure => simp [intOf]; omega
        · have HDT : Hid (dayOkB bd t k = true) := by
            show _ = _
            rw [HDOK.out, G2.out, show rowB dd row = true from rangeAll_true (fun l hl => HJOK.out l (by have := HPL.out; omega))]
            simp [G1.out]
          have HOKS : Hid (∀ l, l < k + 1 → dayOkB bd t l = true) := fun l hl => by
            by_cases e : l = k
            · subst e; exact HDT.out
            · exact HOK.out l (by omega)
          have hdj : decide ((j : Int) < bd.stocks) = false := by simpa using hjl
          have HBXQ := Lib.hid (HBXD.out.trans (HBQ.out.mono HBXD.out.size))
          go_wp2
          go_roundw
          case rel => exact ⟨k + 1, by omega, by go_num, HBXQ.out, HOKS.out⟩
          case measure => simp [intOf]; omega
    · have HTT : Hid (truthB bd t = true) := by
        show _ = _
        have h5 := rangeAll_true (p := dayOkB bd t) (n := bd.days.length) (fun l hl => HOK.out l (by omega))
        simp [truthB, h5, H1.out, H2.out]
      go_wp2
      go_ret
      exact ⟨ret_bool HTT.out.symm, HBW.out⟩
end Go.Proofs.Ytfiacjdkdjkiiaa
