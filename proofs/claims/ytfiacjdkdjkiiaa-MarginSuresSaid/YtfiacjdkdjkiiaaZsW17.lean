/- The walks over Bank.debts and Bank.calls. -/
import Derived.Test.YtfiacjdkdjkiiaaW16
import Derived.Test.YtfiacjdkdjkiiaaW15s
import Derived.Test.YtfiacjdkdjkiiaaGBs
namespace Go.Proofs.Ytfiacjdkdjkiiaa
open Go.RowKit
set_option linter.unusedVariables false
set_option linter.unusedSimpArgs false
attribute [local go_sem ↓] Go.wp_at_zero Go.wp_at_succ

theorem endPs_get (b : BankD) (hi last : Bool) (n k : Nat) (h : k ≤ n) : (endPs b hi last n).getD k [] = endRow b hi last n k := by
  simp [endPs, List.getD_eq_getElem?_getD, List.getElem?_map, List.getElem?_range (show k < n + 1 by omega)]
theorem endRs_get (b : BankD) (hi : Bool) (n k : Nat) (h : k ≤ n) : (endRs b hi n).getD k 0 = sel hi (b.days.getD k default).rate := by
  simp [endRs, List.getD_eq_getElem?_getD, List.getElem?_map, List.getElem?_range (show k < n + 1 by omega)]
theorem sel_bd {h : Bool} {r : Rng} {m : Int} (hr : 0 ≤ r.lo ∧ r.lo ≤ r.hi ∧ r.hi ≤ m) : 0 ≤ sel h r ∧ sel h r ≤ m := by
  cases h <;> simp [sel] <;> omega
theorem ends_small {b : BankD} (hv : Valid b) (hi last : Bool) (n : Nat) (hn : n < b.days.length) : SmallT (endPs b hi last n) (endRs b hi n) := by
  refine ⟨fun k x hx => ?_, fun k => ?_⟩
  · by_cases hk : k ≤ n
    · rw [endPs_get _ _ _ _ _ hk] at hx
      simp only [endRow, List.mem_map] at hx
      obtain ⟨r, hr, rfl⟩ := hx
      obtain ⟨j, hj, rfl⟩ := mem_getD (d := (default : Rng)) hr
      exact sel_bd (hv.price k (by omega) j hj)
    · rw [List.getD_eq_getElem?_getD, List.getElem?_eq_none (by simp [endPs]; omega)] at hx
      simp at hx
  · by_cases hk : k ≤ n
    · rw [endRs_get _ _ _ _ hk]
      exact sel_bd (hv.rate k (by omega))
    · rw [List.getD_eq_getElem?_getD, List.getElem?_eq_none (by simp [endRs]; omega)]
      simp
theorem ends_len {b : BankD} (hv : Valid b) (hi last : Bool) (n i : Nat) (hn : n < b.days.length) (hi' : i < b.loans.length) : ∀ k, (b.loans.getD i default).shares.length = ((endPs b hi last n).getD k []).length ∨ (endPs b hi last n).length ≤ k := fun k => by
  by_cases hk : k ≤ n
  · left
    rw [endPs_get _ _ _ _ _ hk]
    have h1 := hv.plen k (by omega)
    have h2 := (hv.loan i hi').2
    show _ = ((b.days.getD k default).prices.map _).length
    rw [List.length_map]; omega
  · right; simp [endPs]; omega
/-- the state at an end -/
def endSt (b : BankD) (hi last : Bool) (i n : Nat) : St := allSt b.loans (endPs b hi last n) (endRs b hi n) i n
theorem endSt_bd {b : BankD} (hv : Valid b) (hi last : Bool) (i n : Nat) (hn : n < b.days.length) (hi' : i < b.loans.length) : 0 ≤ (endSt b hi last i n).before ∧ (endSt b hi last i n).before ≤ 500000 ∧ 0 ≤ (endSt b hi last i n).call ∧ (endSt b hi last i n).call ≤ (endSt b hi last i n).before := by
  have h := st_bd (hv.loan i hi').1 (ends_small hv hi last n hn) n
  have hd := hv.days
  have h2 := h.2.1 (by omega)
  exact ⟨h.1, by show (stN _ _ _ n).before ≤ _; omega, h.2.2.2.2.1, h.2.2.2.2.2.1⟩

/-- ends and then state: a contract for both calls in a row -/
theorem ends_ok (bd : BankD) (da la : Option Addr) (dc lc : Nat) (hi last : Bool) (n : Nat) (w : World) (hv : Valid bd) (hB : BankAt w da la bd) (hn : n < bd.days.length) (hdc : bd.days.length ≤ dc) (fh fl : Value) (eh : fh = fv hi) (el : fl = fv last) :
    Calls Try.prog 94 #[.agg #[.int .i64 bd.stocks, .slice da bd.days.length dc, .slice la bd.loans.length lc], .agg #[fh], .agg #[fl], .int .i64 n] w fun e w' => ∃ bw B aa ac ra rc, e = .returned (.pointer (some ⟨bw, 0, none⟩)) ∧
      Hid (WorkAt w' bw B bd.loans (endPs bd hi last n) (endRs bd hi n) bd.stocks da la aa ra bd.days.length dc lc ac rc) ∧ w.heap.size ≤ B ∧ Below w.heap.size w w' := by
  subst eh el
  have h1 := hv.days
  have h2 := hv.loans
  exact ends_any bd.stocks bd da la dc lc hi last n w hB hn (by omega) (by omega) hdc (fun i hi => by have := hv.plen i hi; have := hv.st; omega)
theorem state_ok (bd : BankD) (bw B : Nat) (da la aa ra : Option Addr) (dc lc ac rc : Nat) (hi last : Bool) (i n : Nat) (w : World) (hv : Valid bd) (hn : n < bd.days.length) (hi' : i < bd.loans.length)
    (hW : Hid (WorkAt w bw B bd.loans (endPs bd hi last n) (endRs bd hi n) bd.stocks da la aa ra bd.days.length dc lc ac rc)) :
    Calls Try.prog 56 #[.pointer (some ⟨bw, 0, none⟩), .agg #[.int .i64 i, .int .i64 n]] w fun e w' => e = .returned (.agg #[.int .i64 (endSt bd hi last i n).before, .int .i64 (endSt bd hi last i n).value, .int .i64 (endSt bd hi last i n).call]) ∧ w.grownBy w' (some B) ∧ (∀ p v, w.cell? p = some v → w'.cell? p = some v) := by
  have h1 := hv.days
  have h2 := hv.loans
  have h3 := (hv.loan i hi').2
  have h4 := hv.st
  exact (state_any bw B bd.loans (endPs bd hi last n) (endRs bd hi n) bd.stocks da la aa ra bd.days.length dc lc ac rc i n w hW.out hi' (by simp [endPs]) (by simp [endRs]) (by omega) (by simp [endPs]; omega) (by simp [endRs]; omega) (by omega) (hv.loan i hi').1 (ends_small hv hi last n hn) (ends_len hv hi last n i hn hi') (by omega)).mono
    fun e w' ⟨he, hg, hm⟩ => ⟨he, hg, fun p v h => cell_map hW.out.map hg h⟩
def debtsN (b : BankD) (i n : Nat) : Rng := ⟨(endSt b false false i n).after, (endSt b true true i n).after⟩
def callsN (b : BankD) (i n : Nat) : Rng := ⟨(endSt b false true i n).call, (endSt b true false i n).call⟩

set_option maxRecDepth 100000 in
set_option maxHeartbeats 2000000 in
theorem calls_any (bd : BankD) (da la : Option Addr) (dc lc : Nat) (i n : Nat) (w : World) (hv : Valid bd) (hB : BankAt w da la bd) (hn : n < bd.days.length) (hi' : i < bd.loans.length) (hdc : bd.days.length ≤ dc) :
    Calls Try.prog 66 #[.agg #[.int .i64 bd.stocks, .slice da bd.days.length dc, .slice la bd.loans.length lc], .agg #[.int .i64 i, .int .i64 n]] w fun e w' => e = .returned (.agg #[.int .i64 (callsN bd i n).lo, .int .i64 (callsN bd i n).hi]) ∧ Below w.heap.size w w' := by
  have HB0 := Lib.hid hB
  have HE0 := Lib.hid (endSt_bd hv false true i n hn hi')
  have HE1 := Lib.hid (endSt_bd hv true false i n hn hi')
  clear hB
  go_enter Try.func66, Try.ntmps66
  go_wp2_with fail
  have HLE : Hid (Below w.heap.size w (((((w.alloc (.cells #[.int .i64 bd.stocks, .slice da bd.days.length dc, .slice la bd.loans.length lc] 38)).alloc (.cells #[.int .i64 i, .int .i64 n] 120)).alloc (.cells #[.int .i64 0, .int .i64 0] 82)).alloc (.cells #[.func (.func 92) #[] #[]] 156)).alloc (.cells #[.func (.func 93) #[] #[]] 156))) := (((((Below.refl _ _).alloc (Nat.le_refl _) _).alloc (by simp) _).alloc (by simp; omega) _).alloc (by simp; omega) _).alloc (by simp; omega) _
  have hx0 : (((((w.alloc (.cells #[.int .i64 bd.stocks, .slice da bd.days.length dc, .slice la bd.loans.length lc] 38)).alloc (.cells #[.int .i64 i, .int .i64 n] 120)).alloc (.cells #[.int .i64 0, .int .i64 0] 82)).alloc (.cells #[.func (.func 92) #[] #[]] 156)).alloc (.cells #[.func (.func 93) #[] #[]] 156)).heap[w.heap.size]? = some (.cells #[.int .i64 bd.stocks, .slice da bd.days.length dc, .slice la bd.loans.length lc] 38 (0, 0)) := al_old (al_old (al_old (al_old (al_new rfl))))
  have hx1 : (((((w.alloc (.cells #[.int .i64 bd.stocks, .slice da bd.days.length dc, .slice la bd.loans.length lc] 38)).alloc (.cells #[.int .i64 i, .int .i64 n] 120)).alloc (.cells #[.int .i64 0, .int .i64 0] 82)).alloc (.cells #[.func (.func 92) #[] #[]] 156)).alloc (.cells #[.func (.func 93) #[] #[]] 156)).heap[w.heap.size + 1]? = some (.cells #[.int .i64 i, .int .i64 n] 120 (0, 0)) := al_old (al_old (al_old (al_new (by simp))))
  have hx2 : (((((w.alloc (.cells #[.int .i64 bd.stocks, .slice da bd.days.length dc, .slice la bd.loans.length lc] 38)).alloc (.cells #[.int .i64 i, .int .i64 n] 120)).alloc (.cells #[.int .i64 0, .int .i64 0] 82)).alloc (.cells #[.func (.func 92) #[] #[]] 156)).alloc (.cells #[.func (.func 93) #[] #[]] 156)).heap[w.heap.size + 1 + 1]? = some (.cells #[.int .i64 0, .int .i64 0] 82 (0, 0)) := al_old (al_old (al_new (by simp)))
  have hx3 : (((((w.alloc (.cells #[.int .i64 bd.stocks, .slice da bd.days.length dc, .slice la bd.loans.length lc] 38)).alloc (.cells #[.int .i64 i, .int .i64 n] 120)).alloc (.cells #[.int .i64 0, .int .i64 0] 82)).alloc (.cells #[.func (.func 92) #[] #[]] 156)).alloc (.cells #[.func (.func 93) #[] #[]] 156)).heap[w.heap.size + 1 + 1 + 1]? = some (.cells #[.func (.func 92) #[] #[]] 156 (0, 0)) := al_old (al_new (by simp))
  have hx4 : (((((w.alloc (.cells #[.int .i64 bd.stocks, .slice da bd.days.length dc, .slice la bd.loans.length lc] 38)).alloc (.cells #[.int .i64 i, .int .i64 n] 120)).alloc (.cells #[.int .i64 0, .int .i64 0] 82)).alloc (.cells #[.func (.func 92) #[] #[]] 156)).alloc (.cells #[.func (.func 93) #[] #[]] 156)).heap[w.heap.size + 1 + 1 + 1 + 1]? = some (.cells #[.func (.func 93) #[] #[]] 156 (0, 0)) := al_new (by simp)
  generalize (((((w.alloc (.cells #[.int .i64 bd.stocks, .slice da bd.days.length dc, .slice la bd.loans.length lc] 38)).alloc (.cells #[.int .i64 i, .int .i64 n] 120)).alloc (.cells #[.int .i64 0, .int .i64 0] 82)).alloc (.cells #[.func (.func 92) #[] #[]] 156)).alloc (.cells #[.func (.func 93) #[] #[]] 156)) = W at *
  have hlo : w.heap.size < w.heap.size + 1 ∧ w.heap.size + 1 < w.heap.size + 1 + 1 := by omega
  generalize w.heap.size + 1 + 1 + 1 + 1 = n6 at *
  generalize w.heap.size + 1 + 1 + 1 = n5 at *
  generalize w.heap.size + 1 + 1 = nr at *
  generalize w.heap.size + 1 = ns at *
  generalize hnb : w.heap.size = nb at *
  have HNB := Lib.hid hnb
  clear hnb
  have lnr := heap_lt hx2
  have u0 : W.cell? ⟨nb, 0, none⟩ = some (.int .i64 bd.stocks) := (cell_of_heap hx0).trans rfl
  have u1 : W.cell? ⟨nb, 1, none⟩ = some (.slice da bd.days.length dc) := (cell_of_heap hx0).trans rfl
  have u2 : W.cell? ⟨nb, 2, none⟩ = some (.slice la bd.loans.length lc) := (cell_of_heap hx0).trans rfl
  have u3 : W.cell? ⟨ns, 0, none⟩ = some (.int .i64 i) := (cell_of_heap hx1).trans rfl
  have u4 : W.cell? ⟨ns, 1, none⟩ = some (.int .i64 n) := (cell_of_heap hx1).trans rfl
  have u5 : W.cell? ⟨n5, 0, none⟩ = some (.func (.func 92) #[] #[]) := (cell_of_heap hx3).trans rfl
  have u6 : W.cell? ⟨n6, 0, none⟩ = some (.func (.func 93) #[] #[]) := (cell_of_heap hx4).trans rfl
  have q0 : W.cell? ⟨nr, 0, none⟩ = some (.int .i64 0) := (cell_of_heap hx2).trans rfl
  have q1 : W.cell? ⟨nr, 1, none⟩ = some (.int .i64 0) := (cell_of_heap hx2).trans rfl
  have f0 : W.frozen? ⟨nr, 0, none⟩ = false := frozen_of_heap hx2
  have f1 : W.frozen? ⟨nr, 1, none⟩ = false := frozen_of_heap hx2
  clear hx0 hx1 hx2 hx3 hx4
  have HLW : Hid (Below w.heap.size w W) := by
    have := HLE.out
    rw [← HNB.out] at this
    exact this
  clear HLE
  have HLE := HLW
  clear HLW
  have hwb : w.heap.size ≤ nb := by have := HNB.out; omega
  have hwW : w.heap.size ≤ W.heap.size := HLE.out.size
  have HBK := Lib.hid (HB0.out.below HLE.out.drew)
  have hfld : ∀ (x y z : Int) (W' : World), (Instr.field 117 (.agg #[.int .i64 x, .int .i64 y, .int .i64 z]) 2).run Try.prog W' = .ok (.int .i64 z) W' := fun x y z W' => by kernel_rfl
  refine wp_region_plan (fun w' => w'.cell? ⟨nb, 0, none⟩ = some (.int .i64 bd.stocks) ∧ w'.cell? ⟨nb, 1, none⟩ = some (.slice da bd.days.length dc) ∧ w'.cell? ⟨nb, 2, none⟩ = some (.slice la bd.loans.length lc) ∧ w'.cell? ⟨ns, 0, none⟩ = some (.int .i64 i) ∧ w'.cell? ⟨ns, 1, none⟩ = some (.int .i64 n) ∧ w'.cell? ⟨n5, 0, none⟩ = some (.func (.func 92) #[] #[]) ∧ w'.cell? ⟨n6, 0, none⟩ = some (.func (.func 93) #[] #[]))
    [(0, 1), (1, 1), (2, 1), (3, 0), (4, 1), (6, 1), (9, 1), (10, 1), (11, 1), (12, 0), (13, 1), (15, 1), (5, 2), (7, 2), (8, 0), (14, 2), (16, 3), (17, 0), (18, 0), (19, 3)] (by kernel_rfl) (by kernel_rfl) ⟨u0, u1, u2, u3, u4, u5, u6⟩ ?_
  repeat (first
    | (refine plan_look0 (v := ?_) rfl rfl ?_ ?_; rotate_left; focus (intro w'; go_simp; (try with_reducible rfl)); (try simp only [Act.put, List.setIfInBounds_toArray, List.set_cons_zero, List.set_cons_succ]))
    | (refine plan_look1 (v := ?_) rfl rfl ?_ ?_; rotate_left; focus (intro w' hSw; (try dsimp only at hSw); go_simp; (try with_reducible rfl)); (try simp only [Act.put, List.setIfInBounds_toArray, List.set_cons_zero, List.set_cons_succ])))
  refine plan_do2 (by rfl) (fun K hK => ?_)
  go_simp
  refine (ends_ok bd da la dc lc false true n _ hv HBK.out hn hdc _ _ rfl rfl).mono ?_
  rintro e x1 ⟨bw0, B0, aa0, ac0, ra0, rc0, rfl, HW0, hB0, hb1⟩
  have hs1 : W.heap.size ≤ x1.heap.size := hb1.size
  have hB0' : W.heap.size ≤ B0 := hB0
  have a0 := cell_below hb1 u0
  have a1 := cell_below hb1 u1
  have a2 := cell_below hb1 u2
  have a3 := cell_below hb1 u3
  have a4 := cell_below hb1 u4
  have a5 := cell_below hb1 u5
  have a6 := cell_below hb1 u6
  have qa0 := cell_below hb1 q0
  have qa1 := cell_below hb1 q1
  have fa0 := frz_below hb1 q0 f0
  have fa1 := frz_below hb1 q1 f1
  have HQ1 := Lib.hid (HLE.out.drew.trans (hb1.mono (by exact HLE.out.size)))
  clear hb1
  go_wp2_with fail
  refine hK.out _ _ ⟨a0, a1, a2, a3, a4, a5, a6⟩ ?_
  clear hK K
  (try simp only [Act.put, List.setIfInBounds_toArray, List.set_cons_zero, List.set_cons_succ])
  refine plan_do2 (by rfl) (fun K hK => ?_)
  go_simp
  refine (state_ok bd bw0 B0 da la aa0 ra0 dc lc ac0 rc0 false true i n _ hv hn hi' HW0).mono ?_
  rintro e x2 ⟨rfl, hg2, hc2⟩
  have hs2 : x1.heap.size ≤ x2.heap.size := hg2.size
  have b0 := hc2 _ _ a0
  have b1 := hc2 _ _ a1
  have b2 := hc2 _ _ a2
  have b3 := hc2 _ _ a3
  have b4 := hc2 _ _ a4
  have b5 := hc2 _ _ a5
  have b6 := hc2 _ _ a6
  have qb0 := hc2 _ _ qa0
  have qb1 := hc2 _ _ qa1
  have fb0 : x2.frozen? ⟨nr, 0, none⟩ = false := frz_grown hg2 qa0 fa0 (by intro e; simp at e; omega)
  have fb1 : x2.frozen? ⟨nr, 1, none⟩ = false := frz_grown hg2 qa1 fa1 (by intro e; simp at e; omega)
  have HQ2 := Lib.hid (HQ1.out.grown hg2 (HQ1.out.size) (fun k e => by simp at e; omega))
  clear hg2 hc2
  have HBK0 := Lib.hid (HB0.out.below HQ2.out)
  go_wp2_with fail
  refine hK.out _ _ ⟨b0, b1, b2, b3, b4, b5, b6⟩ ?_
  clear hK K
  (try simp only [Act.put, List.setIfInBounds_toArray, List.set_cons_zero, List.set_cons_succ])
  repeat (first
    | (refine plan_look0 (v := ?_) rfl rfl ?_ ?_; rotate_left; focus (intro w'; go_simp; (try with_reducible rfl)); (try simp only [Act.put, List.setIfInBounds_toArray, List.set_cons_zero, List.set_cons_succ]))
    | (refine plan_look1 (v := ?_) rfl rfl ?_ ?_; rotate_left; focus (intro w' hSw; (try dsimp only at hSw); go_simp; (try with_reducible rfl)); (try simp only [Act.put, List.setIfInBounds_toArray, List.set_cons_zero, List.set_cons_succ])))
  refine plan_do2 (by rfl) (fun K hK => ?_)
  go_simp
  refine (ends_ok bd da la dc lc true false n _ hv HBK0.out hn hdc _ _ rfl rfl).mono ?_
  rintro e x3 ⟨bw1, B1, aa1, ac1, ra1, rc1, rfl, HW1, hB1, hb3⟩
  have hs3 : x2.heap.size ≤ x3.heap.size := hb3.size
  have hB1' : x2.heap.size ≤ B1 := hB1
  have c0 := cell_below hb3 b0
  have c1 := cell_below hb3 b1
  have c2 := cell_below hb3 b2
  have c3 := cell_below hb3 b3
  have c4 := cell_below hb3 b4
  have c5 := cell_below hb3 b5
  have c6 := cell_below hb3 b6
  have qc0 := cell_below hb3 qb0
  have qc1 := cell_below hb3 qb1
  have fc0 := frz_below hb3 qb0 fb0
  have fc1 := frz_below hb3 qb1 fb1
  have HQ3 := Lib.hid (HQ2.out.trans (hb3.mono (by exact HQ2.out.size)))
  clear hb3
  go_wp2_with fail
  refine hK.out _ _ ⟨c0, c1, c2, c3, c4, c5, c6⟩ ?_
  clear hK K
  (try simp only [Act.put, List.setIfInBounds_toArray, List.set_cons_zero, List.set_cons_succ])
  refine plan_do3 (by rfl) (fun K hK => ?_)
  go_simp
  refine (state_ok bd bw1 B1 da la aa1 ra1 dc lc ac1 rc1 true false i n _ hv hn hi' HW1).mono ?_
  rintro e x4 ⟨rfl, hg4, hc4⟩
  have hs4 : x3.heap.size ≤ x4.heap.size := hg4.size
  have d0 := hc4 _ _ c0
  have d1 := hc4 _ _ c1
  have d2 := hc4 _ _ c2
  have d3 := hc4 _ _ c3
  have d4 := hc4 _ _ c4
  have d5 := hc4 _ _ c5
  have d6 := hc4 _ _ c6
  have qd0 := hc4 _ _ qc0
  have qd1 := hc4 _ _ qc1
  have fd0 : x4.frozen? ⟨nr, 0, none⟩ = false := frz_grown hg4 qc0 fc0 (by intro e; simp at e; omega)
  have fd1 : x4.frozen? ⟨nr, 1, none⟩ = false := frz_grown hg4 qc1 fc1 (by intro e; simp at e; omega)
  have HQ4 := Lib.hid (HQ3.out.grown hg4 (HQ3.out.size) (fun k e => by simp at e; omega))
  clear hg4 hc4
  have HBK1 := Lib.hid (HB0.out.below HQ4.out)
  go_wp2_with fail
  refine hK.out _ _ ?_
  clear hK K
  (try simp only [Act.put, List.setIfInBounds_toArray, List.set_cons_zero, List.set_cons_succ])
  repeat (first
    | (refine plan_look0 (v := ?_) rfl rfl ?_ ?_; rotate_left; focus (intro w'; go_simp; (try with_reducible rfl)); (try simp only [Act.put, List.setIfInBounds_toArray, List.set_cons_zero, List.set_cons_succ]))
    | (refine plan_look1 (v := ?_) rfl rfl ?_ ?_; rotate_left; focus (intro w' hSw; (try dsimp only at hSw); go_simp; (try with_reducible rfl)); (try simp only [Act.put, List.setIfInBounds_toArray, List.set_cons_zero, List.set_cons_succ])))
  refine plan_do3 (by rfl) (fun K hK => ?_)
  go_simp
  refine hK.out _ _ ?_
  clear hK K
  (try simp only [Act.put, List.setIfInBounds_toArray, List.set_cons_zero, List.set_cons_succ])
  refine plan_end ?_
  have HFB : Hid (Below w.heap.size w ((x4.setCell ⟨nr, 0, none⟩ (.int .i64 (callsN bd i n).lo)).setCell ⟨nr, 1, none⟩ (.int .i64 (callsN bd i n).hi))) := (HQ4.out.setCell (by simp; omega) _).setCell (by simp; omega) _
  have lnr2 : nr < x4.heap.size := by omega
  go_wp2
  exact bodyPost_ret (v := .agg #[.int .i64 (callsN bd i n).lo, .int .i64 (callsN bd i n).hi]) (by simp [results, Try.results66, go_sem, qd0, qd1, fd0, fd1]; exact ⟨rfl, rfl⟩) rfl ⟨rfl, HFB.out⟩
end Go.Proofs.Ytfiacjdkdjkiiaa
