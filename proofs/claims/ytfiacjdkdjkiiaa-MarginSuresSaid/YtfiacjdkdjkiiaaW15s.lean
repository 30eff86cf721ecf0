/- The walk over work.state (II). -/
import Derived.Test.YtfiacjdkdjkiiaaW15
namespace Go.Proofs.Ytfiacjdkdjkiiaa
open Go.RowKit
set_option linter.unusedVariables false
set_option linter.unusedSimpArgs false
attribute [local go_sem ↓] Go.wp_at_zero Go.wp_at_succ


set_option maxRecDepth 100000 in
set_option maxHeartbeats 2000000 in
theorem state_any (bw B : Nat) (ls : List LoanD) (ps : List (List Int)) (rs : List Int) (st : Int) (da la aa ra : Option Addr) (nd dc lc ac rc : Nat) (i n : Nat) (w : World)
    (hW : WorkAt w bw B ls ps rs st da la aa ra nd dc lc ac rc) (hi : i < ls.length) (hn : n < ps.length) (hnr : n < rs.length) (hn4 : n ≤ 10) (hps : ps.length ≤ 1000) (hrs : rs.length ≤ 1000) (hls : ls.length ≤ 1000)
    (hL : SmallL (ls.getD i default)) (hT : SmallT ps rs) (hlen : ∀ k, (ls.getD i default).shares.length = (ps.getD k []).length ∨ ps.length ≤ k) (hs4 : (ls.getD i default).shares.length ≤ 4) :
    Calls Try.prog 56 #[.pointer (some ⟨bw, 0, none⟩), .agg #[.int .i64 i, .int .i64 n]] w fun e w' => e = .returned (stV (allSt ls ps rs i n)) ∧ w.grownBy w' (some B) ∧ MapAt w' B (allSt ls ps rs) := by
  induction n using Nat.strongRecOn generalizing w with
  | _ n ih =>
  have IH := Lib.hid ih
  clear ih
  have hbx := hW.box
  have b0 : bw < w.heap.size := heap_lt hbx
  have HW := Lib.hid hW
  have hbox : Below w.heap.size w ((w.alloc (.cells #[.int .i64 i, .int .i64 n] 120)).alloc (.cells #[.int .i64 0, .int .i64 0, .int .i64 0] 117)) := two_boxes
  have HBX := Lib.hid hbox
  have HM2 := Lib.hid (hW.map.below hbox)
  have q50 : w.cell? ⟨bw, 5, none⟩ = some (.map (some B)) := (cell_of_heap hbx).trans rfl
  have q5 := cell_below hbox q50
  have s0 : ((w.alloc (.cells #[.int .i64 i, .int .i64 n] 120)).alloc (.cells #[.int .i64 0, .int .i64 0, .int .i64 0] 117)).cell? ⟨w.heap.size, 0, none⟩ = some (.int .i64 i) := by simp [go_sem]
  have s1 : ((w.alloc (.cells #[.int .i64 i, .int .i64 n] 120)).alloc (.cells #[.int .i64 0, .int .i64 0, .int .i64 0] 117)).cell? ⟨w.heap.size, 1, none⟩ = some (.int .i64 n) := by simp [go_sem]
  have HL := Lib.hid (look_st (hW.map.below hbox) i n)
  clear hbox hW q50
  rcases HL.out with hl | hl
  case inr =>
    have look := hl ((w.alloc (.cells #[.int .i64 i, .int .i64 n] 120)).alloc (.cells #[.int .i64 0, .int .i64 0, .int .i64 0] 117)).drew rfl
    have look2 := hl (((w.alloc (.cells #[.int .i64 i, .int .i64 n] 120)).alloc (.cells #[.int .i64 0, .int .i64 0, .int .i64 0] 117)).alloc (.cells #[.int .i64 0, .int .i64 0, .int .i64 0] 117)).drew (Below.heap_alloc _ _ _ HM2.out.lt)
    clear hl HL
    generalize hs : allSt ls ps rs i n = s at *
    have HS := Lib.hid hs
    clear hs
    go_enter Try.func56, Try.ntmps56
    go_wp2_with fail
    refine wp_region_plan (fun w' => w'.cell? ⟨bw, 5, none⟩ = some (.map (some B)) ∧ w'.cell? ⟨w.heap.size, 0, none⟩ = some (.int .i64 i) ∧ w'.cell? ⟨w.heap.size, 1, none⟩ = some (.int .i64 n) ∧ (Instr.lookup 147 (.map (some B)) (.agg #[.int .i64 i, .int .i64 n]) true).run Try.prog w' = .ok (.tuple #[.agg #[.int .i64 s.before, .int .i64 s.value, .int .i64 s.call], .bool true]) w')
      [(0, 0), (1, 0), (2, 0), (3, 1), (4, 1), (5, 1), (6, 0), (7, 0), (8, 0), (9, 2), (10, 3), (11, 0)] (by kernel_rfl) (by kernel_rfl) ⟨q5, s0, s1, look⟩ ?_
    repeat (first
      | (refine plan_look0 (v := ?_) rfl rfl ?_ ?_; rotate_left; focus (intro w'; go_simp; (try with_reducible rfl)); (try simp only [Act.put, List.setIfInBounds_toArray, List.set_cons_zero, List.set_cons_succ]))
      | (refine plan_look1 (v := ?_) rfl rfl ?_ ?_; rotate_left; focus (intro w' hSw; (try dsimp only at hSw); go_simp; (try with_reducible rfl)); (try simp only [Act.put, List.setIfInBounds_toArray, List.set_cons_zero, List.set_cons_succ])))
    refine plan_do2 (by rfl) (fun K hK => ?_)
    go_simp
    refine hK.out _ _ ⟨cell_al q5, cell_al s0, cell_al s1, look2⟩ ?_
    clear hK K
    (try simp only [Act.put, List.setIfInBounds_toArray, List.set_cons_zero, List.set_cons_succ])
    refine plan_do3 (by rfl) (fun K hK => ?_)
    go_simp
    refine hK.out _ _ ?_
    clear hK K
    (try simp only [Act.put, List.setIfInBounds_toArray, List.set_cons_zero, List.set_cons_succ])
    repeat (first
      | (refine plan_look0 (v := ?_) rfl rfl ?_ ?_; rotate_left; focus (intro w'; go_simp; (try with_reducible rfl)); (try simp only [Act.put, List.setIfInBounds_toArray, List.set_cons_zero, List.set_cons_succ]))
      | (refine plan_look1 (v := ?_) rfl rfl ?_ ?_; rotate_left; focus (intro w' hSw; (try dsimp only at hSw); go_simp; (try with_reducible rfl)); (try simp only [Act.put, List.setIfInBounds_toArray, List.set_cons_zero, List.set_cons_succ])))
    refine plan_end ?_
    clear look look2
    go_wp2
    refine bodyPost_ret (v := stV s) (by simp [results, Try.results56, go_sem, stV]) rfl ⟨rfl, ?_⟩
    have hbl : Below w.heap.size w ((w.alloc (.cells #[.int .i64 i, .int .i64 n] 120)).alloc (.cells #[.int .i64 s.before, .int .i64 s.value, .int .i64 s.call] 117)) := two_boxes
    refine ⟨only_of_below ((hbl.alloc (by simp; omega) _).drew) _, (HW.out.map.below ((hbl.alloc (by simp; omega) _).drew))⟩
  case inl =>
    have look := hl ((w.alloc (.cells #[.int .i64 i, .int .i64 n] 120)).alloc (.cells #[.int .i64 0, .int .i64 0, .int .i64 0] 117)).drew rfl
    have look2 := hl (((w.alloc (.cells #[.int .i64 i, .int .i64 n] 120)).alloc (.cells #[.int .i64 0, .int .i64 0, .int .i64 0] 117)).alloc (.cells #[.int .i64 0, .int .i64 0, .int .i64 0] 117)).drew (Below.heap_alloc _ _ _ HM2.out.lt)
    clear hl HL
    go_enter Try.func56, Try.ntmps56
    go_wp2_with fail
    refine wp_region_plan (fun w' => w'.cell? ⟨bw, 5, none⟩ = some (.map (some B)) ∧ w'.cell? ⟨w.heap.size, 0, none⟩ = some (.int .i64 i) ∧ w'.cell? ⟨w.heap.size, 1, none⟩ = some (.int .i64 n) ∧ (Instr.lookup 147 (.map (some B)) (.agg #[.int .i64 i, .int .i64 n]) true).run Try.prog w' = .ok (.tuple #[.agg #[.int .i64 0, .int .i64 0, .int .i64 0], .bool false]) w')
      [(0, 0), (1, 0), (2, 0), (3, 1), (4, 1), (5, 1), (6, 0), (7, 0), (8, 0), (9, 2), (10, 3), (11, 0)] (by kernel_rfl) (by kernel_rfl) ⟨q5, s0, s1, look⟩ ?_
    repeat (first
      | (refine plan_look0 (v := ?_) rfl rfl ?_ ?_; rotate_left; focus (intro w'; go_simp; (try with_reducible rfl)); (try simp only [Act.put, List.setIfInBounds_toArray, List.set_cons_zero, List.set_cons_succ]))
      | (refine plan_look1 (v := ?_) rfl rfl ?_ ?_; rotate_left; focus (intro w' hSw; (try dsimp only at hSw); go_simp; (try with_reducible rfl)); (try simp only [Act.put, List.setIfInBounds_toArray, List.set_cons_zero, List.set_cons_succ])))
    refine plan_do2 (by rfl) (fun K hK => ?_)
    go_simp
    refine hK.out _ _ ⟨cell_al q5, cell_al s0, cell_al s1, look2⟩ ?_
    clear hK K
    (try simp only [Act.put, List.setIfInBounds_toArray, List.set_cons_zero, List.set_cons_succ])
    refine plan_do3 (by rfl) (fun K hK => ?_)
    go_simp
    refine hK.out _ _ ?_
    clear hK K
    (try simp only [Act.put, List.setIfInBounds_toArray, List.set_cons_zero, List.set_cons_succ])
    repeat (first
      | (refine plan_look0 (v := ?_) rfl rfl ?_ ?_; rotate_left; focus (intro w'; go_simp; (try with_reducible rfl)); (try simp only [Act.put, List.setIfInBounds_toArray, List.set_cons_zero, List.set_cons_succ]))
      | (refine plan_look1 (v := ?_) rfl rfl ?_ ?_; rotate_left; focus (intro w' hSw; (try dsimp only at hSw); go_simp; (try with_reducible rfl)); (try simp only [Act.put, List.setIfInBounds_toArray, List.set_cons_zero, List.set_cons_succ])))
    refine plan_end ?_
    clear look look2
    have q2 : w.cell? ⟨bw, 2, none⟩ = some (.slice la ls.length lc) := (cell_of_heap hbx).trans rfl
    obtain ⟨b, off, sa, sc, rfl, c1, c2, c3, hsh⟩ := HW.out.loans i hi
    have HSH := Lib.hid hsh
    clear hsh
    have hbl3 : Below w.heap.size w (((w.alloc (.cells #[.int .i64 i, .int .i64 n] 120)).alloc (.cells #[.int .i64 0, .int .i64 0, .int .i64 0] 117)).alloc (.cells #[.int .i64 0, .int .i64 0, .int .i64 0] 117)) := HBX.out.alloc (by simp; omega) _
    replace q2 := cell_below hbl3 q2
    replace c1 := cell_below hbl3 c1
    replace c2 := cell_below hbl3 c2
    replace c3 := cell_below hbl3 c3
    replace s0 := cell_al (o := .cells #[.int .i64 0, .int .i64 0, .int .i64 0] 117) s0
    clear hbl3
    have HSL := Lib.hid hL; have HT2 := Lib.hid hT; have HLN := Lib.hid hlen
    clear hL hT hlen
    generalize hl : ls.getD i default = l at *
    have HLL := Lib.hid hl
    clear hl
    have hi0 : (0 : Int) ≤ (i : Int) := by omega
    have hi1 : (i : Int) < (ls.length : Int) := by omega
    go_wp2_with fail
    refine wp_region_plan (fun w' => w'.cell? ⟨bw, 2, none⟩ = some (.slice (some ⟨b, off, none⟩) ls.length lc) ∧ w'.cell? ⟨w.heap.size, 0, none⟩ = some (.int .i64 i) ∧ w'.cell? ⟨b, off + i * 3, none⟩ = some (.int .i64 l.money) ∧ w'.cell? ⟨b, off + i * 3 + 1, none⟩ = some (.int .i64 l.margin) ∧ w'.cell? ⟨b, off + i * 3 + 2, none⟩ = some (.slice sa l.shares.length sc))
      [(0, 0), (1, 0), (2, 0), (3, 0), (4, 1), (5, 0), (6, 1), (7, 0), (8, 1), (9, 2), (10, 3)] (by kernel_rfl) (by kernel_rfl) ⟨q2, s0, c1, c2, c3⟩ ?_
    repeat (first
      | (refine plan_look0 (v := ?_) rfl rfl ?_ ?_; rotate_left; focus (intro w'; go_simp; (try with_reducible rfl)); (try simp only [Act.put, List.setIfInBounds_toArray, List.set_cons_zero, List.set_cons_succ]))
      | (refine plan_look1 (v := ?_) rfl rfl ?_ ?_; rotate_left; focus (intro w' hSw; (try dsimp only at hSw); go_simp; (try with_reducible rfl)); (try simp only [Act.put, List.setIfInBounds_toArray, List.set_cons_zero, List.set_cons_succ])))
    refine plan_do2 (by rfl) (fun K hK => ?_)
    go_simp
    refine hK.out _ _ ⟨cell_al q2, cell_al s0, cell_al c1, cell_al c2, cell_al c3⟩ ?_
    clear hK K
    (try simp only [Act.put, List.setIfInBounds_toArray, List.set_cons_zero, List.set_cons_succ])
    refine plan_do3 (by rfl) (fun K hK => ?_)
    go_simp
    refine hK.out _ _ ?_
    clear hK K
    (try simp only [Act.put, List.setIfInBounds_toArray, List.set_cons_zero, List.set_cons_succ])
    refine plan_end ?_
    have HSR := Lib.hid (srel_start (i := i) (n := n) (l := l) (sa := sa) (sc := sc) HW.out.map)
    clear q2 c1 c2 c3 s0 s1 q5 HM2 HBX
    generalize ((((((w.alloc (.cells #[.int .i64 i, .int .i64 n] 120)).alloc (.cells #[.int .i64 0, .int .i64 0, .int .i64 0] 117))).alloc (.cells #[.int .i64 0, .int .i64 0, .int .i64 0] 117)).alloc (.cells #[.int .i64 l.money, .int .i64 l.margin, .slice sa l.shares.length sc] 109)).drew.drew) = W at *
    generalize w.heap.size + 1 + 1 + 1 = nl at *
    generalize w.heap.size + 1 + 1 = nx at *
    generalize w.heap.size + 1 = nr at *
    generalize hns : w.heap.size = ns at *
    have HNS := Lib.hid hns
    clear hns
    have t0 : W.cell? ⟨ns, 0, none⟩ = some (.int .i64 i) := (cell_of_heap HSR.out.s).trans rfl
    have t1 : W.cell? ⟨ns, 1, none⟩ = some (.int .i64 n) := (cell_of_heap HSR.out.s).trans rfl
    have m0 : W.cell? ⟨nl, 0, none⟩ = some (.int .i64 l.money) := (cell_of_heap HSR.out.l).trans rfl
    by_cases h0 : 0 < n
    · obtain ⟨m, hmn, hmn'⟩ : ∃ m : Nat, n ≤ m + 1 ∧ m + 1 ≤ n := ⟨n - 1, by omega, by omega⟩
      have HWW := Lib.hid (HW.out.move HSR.out.g HSR.out.m)
      have wq : (n : Int) - 1 = (m : Int) := by omega
      have HMB := Lib.hid (st_bd (ps := ps) (rs := rs) HSL.out HT2.out m)
      have HAS : Hid (∀ y r vl, allSt ls ps rs i m = y → rs.getD n 0 = r → vl = dot l.shares (ps.getD n []) → allSt ls ps rs i n = ⟨befN (y.before - y.call) r, vl, callN (befN (y.before - y.call) r) vl l.margin⟩) := by
        intro y r vl e0 e1 e2
        have hz : n = m + 1 := by omega
        subst hz
        rw [← e1, e2, ← e0, ← HLL.out]; rfl
      have HYV : Hid ((allSt ls ps rs i m).value = dot l.shares (ps.getD m [])) := by
        show (stN _ ps rs m).value = _
        rw [HLL.out]
        cases m <;> rfl
      have HYB : Hid (0 ≤ (allSt ls ps rs i m).before ∧ (allSt ls ps rs i m).before ≤ 500000 ∧ 0 ≤ (allSt ls ps rs i m).call ∧ (allSt ls ps rs i m).call ≤ (allSt ls ps rs i m).before) := by
        have h1 := HMB.out
        have e1 : allSt ls ps rs i m = stN l ps rs m := by show stN _ ps rs m = _; rw [HLL.out]
        rw [e1]
        have h2 := h1.2.1 (by omega)
        exact ⟨h1.1, by omega, h1.2.2.2.2.1, h1.2.2.2.2.2.1⟩
      have HCA := Lib.hid (IH.out m (by omega) W HWW.out (by omega) (by omega) (by omega))
      generalize allSt ls ps rs i m = y at *
      clear HMB
      go_wp2_with fail
      refine (HCA.out).mono ?_
      rintro e V0 ⟨rfl, hg, hm⟩
      have HSR1 := Lib.hid (HSR.out.move hg hm)
      clear hg hm HSR t0 t1 m0 HCA
      unfold stV
      go_wp2_with fail
      have hbV : Below V0.heap.size V0 (V0.alloc (.cells #[.int .i64 y.before, .int .i64 y.value, .int .i64 y.call] 117)) := (Below.refl _ _).alloc (Nat.le_refl _) _
      have HSR := Lib.hid (HSR1.out.below hbV)
      have v0 : (V0.alloc (.cells #[.int .i64 y.before, .int .i64 y.value, .int .i64 y.call] 117)).cell? ⟨V0.heap.size, 0, none⟩ = some (.int .i64 y.before) := by simp [go_sem]
      have v1 : (V0.alloc (.cells #[.int .i64 y.before, .int .i64 y.value, .int .i64 y.call] 117)).cell? ⟨V0.heap.size, 1, none⟩ = some (.int .i64 y.value) := by simp [go_sem]
      have v2 : (V0.alloc (.cells #[.int .i64 y.before, .int .i64 y.value, .int .i64 y.call] 117)).cell? ⟨V0.heap.size, 2, none⟩ = some (.int .i64 y.call) := by simp [go_sem]
      clear HSR1 hbV
      generalize (V0.alloc (.cells #[.int .i64 y.before, .int .i64 y.value, .int .i64 y.call] 117)) = V at *
      generalize V0.heap.size = ny at *
      have hyb := HYB.out
      have hfl : y.before - y.call ≤ 1000000 := by omega
      refine wp_region_plan (fun w' => w'.cell? ⟨ny, 0, none⟩ = some (.int .i64 y.before) ∧ w'.cell? ⟨ny, 1, none⟩ = some (.int .i64 y.value) ∧ w'.cell? ⟨ny, 2, none⟩ = some (.int .i64 y.call))
        [(0, 1), (2, 0), (3, 1), (1, 2), (4, 0), (5, 0), (6, 3)] (by kernel_rfl) (by kernel_rfl) ⟨v0, v1, v2⟩ ?_
      repeat (first
        | (refine plan_look0 (v := ?_) rfl rfl ?_ ?_; rotate_left; focus (intro w'; go_simp; (try with_reducible rfl)); (try simp only [Act.put, List.setIfInBounds_toArray, List.set_cons_zero, List.set_cons_succ]))
        | (refine plan_look1 (v := ?_) rfl rfl ?_ ?_; rotate_left; focus (intro w' hSw; (try dsimp only at hSw); go_simp; (try with_reducible rfl)); (try simp only [Act.put, List.setIfInBounds_toArray, List.set_cons_zero, List.set_cons_succ])))
      refine plan_do2 (by rfl) (fun K hK => ?_)
      go_simp
      refine (after_any _ _ _ _ (by omega) (by omega)).mono ?_
      rintro e w5 ⟨rfl, hb5⟩
      have HSR5 := Lib.hid (HSR.out.drew.below hb5)
      have z0 := cell_below hb5 v0
      have z1 := cell_below hb5 v1
      have z2 := cell_below hb5 v2
      clear hb5
      have fx1 : w5.frozen? ⟨nx, 1, none⟩ = false := frozen_of_heap HSR5.out.x
      have x1 : w5.cell? ⟨nx, 1, none⟩ = some (.int .i64 0) := (cell_of_heap HSR5.out.x).trans rfl
      go_wp2_with fail
      refine hK.out _ _ ⟨z0, z1, z2⟩ ?_
      clear hK K
      (try simp only [Act.put, List.setIfInBounds_toArray, List.set_cons_zero, List.set_cons_succ])
      repeat (first
        | (refine plan_look0 (v := ?_) rfl rfl ?_ ?_; rotate_left; focus (intro w'; go_simp; (try with_reducible rfl)); (try simp only [Act.put, List.setIfInBounds_toArray, List.set_cons_zero, List.set_cons_succ]))
        | (refine plan_look1 (v := ?_) rfl rfl ?_ ?_; rotate_left; focus (intro w' hSw; (try dsimp only at hSw); go_simp; (try with_reducible rfl)); (try simp only [Act.put, List.setIfInBounds_toArray, List.set_cons_zero, List.set_cons_succ])))
      refine plan_do3 (by rfl) (fun K hK => ?_)
      go_simp
      refine hK.out _ _ ?_
      clear hK K
      (try simp only [Act.put, List.setIfInBounds_toArray, List.set_cons_zero, List.set_cons_succ])
      refine plan_end ?_
      have HSR6 := Lib.hid (HSR5.out.set (k := 1) (u := .int .i64 y.value) rfl)
      clear HSR HSR5 x1 fx1 v0 v1 v2 z0 z1 z2
      have HDB : Hid (0 ≤ y.before - y.call ∧ y.before - y.call ≤ 1000000) := ⟨by omega, by omega⟩
      have HAS3 : Hid (∀ r vl, rs.getD n 0 = r → vl = dot l.shares (ps.getD n []) → allSt ls ps rs i n = ⟨befN (y.before - y.call) r, vl, callN (befN (y.before - y.call) r) vl l.margin⟩) := fun r vl e1 e2 => HAS.out y r vl rfl e1 e2
      clear HAS hyb HYB hfl
      generalize y.before - y.call = dbt at *
      generalize y.value = yv at *
      clear HWW
      generalize (w5.setCell ⟨nx, 1, none⟩ (.int .i64 yv)) = U at *
      obtain ⟨W, hWU⟩ : ∃ W : World, W = U := ⟨_, rfl⟩
      subst hWU
      have HSR := HSR6
      clear HSR6
      have t0 : W.cell? ⟨ns, 0, none⟩ = some (.int .i64 i) := (cell_of_heap HSR.out.s).trans rfl
      have t1 : W.cell? ⟨ns, 1, none⟩ = some (.int .i64 n) := (cell_of_heap HSR.out.s).trans rfl
      have m0 : True := trivial
      have q4 : W.cell? ⟨bw, 4, none⟩ = some (.slice ra rs.length rc) := cell_map HW.out.map HSR.out.g ((cell_of_heap hbx).trans rfl)
      obtain ⟨b2, off2, rfl, cr⟩ := (HW.out.rates.map HW.out.map HSR.out.g) n hnr
      have hrb := HT2.out.2 n
      generalize hr : rs.getD n 0 = r at *
      have HR := Lib.hid hr
      clear hr
      have hdb := HDB.out
      have hpr : 0 ≤ dbt * r ∧ dbt * r ≤ 1000000 * 100 := ⟨Int.mul_nonneg hdb.1 hrb.1, Int.le_trans (Int.mul_le_mul_of_nonneg_right hdb.2 hrb.1) (Int.mul_le_mul_of_nonneg_left hrb.2 (by omega))⟩
      have fx0 : W.frozen? ⟨nx, 0, none⟩ = false := frozen_of_heap HSR.out.x
      have x0 : W.cell? ⟨nx, 0, none⟩ = some (.int .i64 0) := (cell_of_heap HSR.out.x).trans rfl
      have hn0 : (0 : Int) ≤ (n : Int) := by omega
      have hnr1 : (n : Int) < (rs.length : Int) := by omega
      have hnp1 : (n : Int) < (ps.length : Int) := by omega
      go_wp2_with fail
      have wb : (dbt * r).tdiv 10000 = dbt * r / 10000 := Int.tdiv_eq_ediv_of_nonneg hpr.1
      have wa : IntKind.i64.wrap (dbt * r) = dbt * r := IntWalk.i64_in _ (by omega)
      have wc : IntKind.i64.wrap (dbt * r / 10000) = dbt * r / 10000 := IntWalk.i64_in _ (by omega)
      have wd : IntKind.i64.wrap (dbt + dbt * r / 10000) = dbt + dbt * r / 10000 := IntWalk.i64_in _ (by omega)
      refine wp_region_plan (fun w' => w'.cell? ⟨bw, 4, none⟩ = some (.slice (some ⟨b2, off2, none⟩) rs.length rc) ∧ w'.cell? ⟨ns, 1, none⟩ = some (.int .i64 n) ∧ w'.cell? ⟨b2, off2 + n, none⟩ = some (.int .i64 r))
        [(0, 0), (1, 0), (2, 0), (3, 0), (4, 0), (5, 1), (6, 0), (7, 1), (8, 0), (9, 1), (10, 0), (11, 0), (12, 0), (13, 0), (14, 3)] (by kernel_rfl) (by kernel_rfl) ⟨q4, t1, cr⟩ ?_
      repeat (first
        | (refine plan_look0 (v := ?_) rfl rfl ?_ ?_; rotate_left; focus (intro w'; go_simp; (try with_reducible rfl)); (try simp only [Act.put, List.setIfInBounds_toArray, List.set_cons_zero, List.set_cons_succ]))
        | (refine plan_look1 (v := ?_) rfl rfl ?_ ?_; rotate_left; focus (intro w' hSw; (try dsimp only at hSw); go_simp; (try with_reducible rfl)); (try simp only [Act.put, List.setIfInBounds_toArray, List.set_cons_zero, List.set_cons_succ])))
      refine plan_do3 (by rfl) (fun K hK => ?_)
      go_simp
      refine hK.out _ _ ?_
      clear hK K
      (try simp only [Act.put, List.setIfInBounds_toArray, List.set_cons_zero, List.set_cons_succ])
      refine plan_end ?_
      clear q4 cr x0 fx0 t0 t1 m0 wa wb wc wd
      have HSR1 := Lib.hid ((HSR.out.set (k := 0) (u := .int .i64 (dbt + dbt * r / 10000)) rfl).drew)
      have HBF : Hid (befN dbt r = dbt + dbt * r / 10000) := rfl
      have HBB : Hid (0 ≤ dbt + dbt * r / 10000 ∧ dbt + dbt * r / 10000 ≤ 2000000) := by
        show _ ∧ _
        omega
      generalize dbt + dbt * r / 10000 = bf at *
      clear HSR
      generalize (W.setCell ⟨nx, 0, none⟩ (.int .i64 bf)).drew = W1 at *
      have HSR := HSR1
      clear HSR1
      have q3 : W1.cell? ⟨bw, 3, none⟩ = some (.slice aa ps.length ac) := cell_map HW.out.map HSR.out.g ((cell_of_heap hbx).trans rfl)
      have t1 : W1.cell? ⟨ns, 1, none⟩ = some (.int .i64 n) := (cell_of_heap HSR.out.s).trans rfl
      obtain ⟨b3, off3, a0, a1, a2, a3, rfl, HA4, HP4, k0, k1, k2, k3⟩ := (HW.out.arrs.map HW.out.map HSR.out.g).get n hn
      obtain ⟨b4, off4, c0, c1, c2, c3, e4, HC4, HQ4, j0, j1, j2, j3⟩ := (HW.out.arrs.map HW.out.map HSR.out.g).get m (by omega)
      simp only [Option.some.injEq, Addr.mk.injEq] at e4
      obtain ⟨rfl, rfl, _⟩ := e4
      have e0 : ((n : Int) == 0) = false := by simp; omega
      have hgd : Try.prog.eqGuardType Try.prog.depth 139 = false := by kernel_rfl
      have hm0' : (0 : Int) ≤ (m : Int) := by omega
      have hm1' : (m : Int) < (ps.length : Int) := by omega
      have wr1 : IntKind.i64.wrap (n - 1 : Int) = (m : Int) := by rw [wq]; exact IntWalk.i64_in _ (by omega)
      have HNQ : Hid (∀ W' : World, (binOp .neq 139 (.agg #[.int .i64 a0, .int .i64 a1, .int .i64 a2, .int .i64 a3]) (.agg #[.int .i64 c0, .int .i64 c1, .int .i64 c2, .int .i64 c3])).run Try.prog W' = .ok (.bool (!decide (pad4 (ps.getD n []) = pad4 (ps.getD m [])))) W') := fun W' => by
        have := neq_arr (ps.getD n []) (ps.getD m []) W'
        rw [HA4.out, HC4.out] at this
        exact this
      cases hd : decide (pad4 (ps.getD n []) = pad4 (ps.getD m []))
      · have hnq := HNQ.out
        rw [hd] at hnq
        simp only [Bool.not_false] at hnq
        have HD := Lib.hid hd
        clear hd
        go_wp2_with fail
        go_quiet (fail)
        clear j0 j1 j2 j3 hnq HNQ hgd wr1
        have HSR2 := Lib.hid (HSR.out.drewN (q := nq))
        replace k0 := (cell_below (below_drewN' (Below.refl _ _) nq) k0)
        replace k1 := (cell_below (below_drewN' (Below.refl _ _) nq) k1)
        replace k2 := (cell_below (below_drewN' (Below.refl _ _) nq) k2)
        replace k3 := (cell_below (below_drewN' (Below.refl _ _) nq) k3)
        replace q3 := (cell_below (below_drewN' (Below.refl _ _) nq) q3)
        clear HSR t1
        generalize W1.drewN nq = W2 at *
        have HSR := HSR2
        clear HSR2
        have t1 : W2.cell? ⟨ns, 1, none⟩ = some (.int .i64 n) := (cell_of_heap HSR.out.s).trans rfl
        have m2 : W2.cell? ⟨nl, 2, none⟩ = some (.slice sa l.shares.length sc) := (cell_of_heap HSR.out.l).trans rfl
        have HSH3 := Lib.hid (HSH.out.map HW.out.map HSR.out.g)
        have HPV : Hid (∀ W' : World, IntsAt W' sa l.shares → Calls Try.prog 81 #[.agg #[.int .i64 a0, .int .i64 a1, .int .i64 a2, .int .i64 a3], .slice sa l.shares.length sc] W' fun e w' => e = .returned (.int .i64 (dot l.shares (ps.getD n []))) ∧ Below W'.heap.size W' w') := fun W' h => by
          have hl2 := HLN.out n
          have := pvalue_any sa l.shares (ps.getD n []) sc W' hs4 (fun x hx => by have := HSL.out.2.2.2.2 x hx; omega) ?_ h
          · rw [HA4.out, dot_pad _ _ (by omega) (by omega)] at this
            exact this
          · intro x hx
            have h5 := HT2.out.1 n
            simp only [pad4, List.mem_cons, List.not_mem_nil, or_false] at hx
            have : ∀ j, 0 ≤ (ps.getD n []).getD j 0 ∧ (ps.getD n []).getD j 0 ≤ 1000000 := fun j => by
              by_cases hj : j < (ps.getD n []).length
              · have := h5 _ (getD_mem (d := 0) hj); omega
              · rw [List.getD_eq_getElem?_getD, List.getElem?_eq_none (by omega)]; simp
            rcases hx with rfl | rfl | rfl | rfl <;> exact this _
        have HVB : Hid (0 ≤ dot l.shares (ps.getD n []) ∧ dot l.shares (ps.getD n []) ≤ 1000000) := by
          have h1 := dot_nonneg l.shares (ps.getD n []) (fun x hx => (HSL.out.2.2.2.2 x hx).1) (fun x hx => (HT2.out.1 n x hx).1)
          have h2 := dot_le l.shares (ps.getD n []) HSL.out.2.2.2.2 (HT2.out.1 n)
          exact ⟨h1, by omega⟩
        have HAS2 := Lib.hid (HAS3.out r _ rfl rfl)
        generalize dot l.shares (ps.getD n []) = vl at *
        go_wp2_with fail
        refine wp_region_plan (fun w' => w'.cell? ⟨bw, 3, none⟩ = some (.slice (some ⟨b3, off3, none⟩) ps.length ac) ∧ w'.cell? ⟨ns, 1, none⟩ = some (.int .i64 n) ∧ w'.cell? ⟨b3, off3 + n * 4, none⟩ = some (.int .i64 a0) ∧ w'.cell? ⟨b3, off3 + n * 4 + 1, none⟩ = some (.int .i64 a1) ∧ w'.cell? ⟨b3, off3 + n * 4 + 2, none⟩ = some (.int .i64 a2) ∧ w'.cell? ⟨b3, off3 + n * 4 + 3, none⟩ = some (.int .i64 a3) ∧ w'.cell? ⟨nl, 2, none⟩ = some (.slice sa l.shares.length sc))
          [(0, 0), (1, 0), (2, 0), (3, 1), (4, 0), (5, 1), (6, 0), (7, 1), (8, 0), (9, 1), (10, 3), (11, 0), (12, 3)] (by kernel_rfl) (by kernel_rfl) ⟨q3, t1, k0, k1, k2, k3, m2⟩ ?_
        repeat (first
          | (refine plan_look0 (v := ?_) rfl rfl ?_ ?_; rotate_left; focus (intro w'; go_simp; (try with_reducible rfl)); (try simp only [Act.put, List.setIfInBounds_toArray, List.set_cons_zero, List.set_cons_succ]))
          | (refine plan_look1 (v := ?_) rfl rfl ?_ ?_; rotate_left; focus (intro w' hSw; (try dsimp only at hSw); go_simp; (try with_reducible rfl)); (try simp only [Act.put, List.setIfInBounds_toArray, List.set_cons_zero, List.set_cons_succ])))
        refine plan_do3 (by rfl) (fun K hK => ?_)
        go_simp
        refine (HPV.out _ ?_).mono ?_
        · exact HSH3.out
        rintro e w5 ⟨rfl, hb5⟩
        have HSR5 := Lib.hid (HSR.out.drew.below hb5)
        clear hb5
        have fx1 : w5.frozen? ⟨nx, 1, none⟩ = false := frozen_of_heap HSR5.out.x
        have x1 := (cell_of_heap (k := 1) HSR5.out.x).trans rfl
        go_wp2_with fail
        refine hK.out _ _ ?_
        clear hK K
        (try simp only [Act.put, List.setIfInBounds_toArray, List.set_cons_zero, List.set_cons_succ])
        repeat (first
          | (refine plan_look0 (v := ?_) rfl rfl ?_ ?_; rotate_left; focus (intro w'; go_simp; (try with_reducible rfl)); (try simp only [Act.put, List.setIfInBounds_toArray, List.set_cons_zero, List.set_cons_succ]))
          | (refine plan_look1 (v := ?_) rfl rfl ?_ ?_; rotate_left; focus (intro w' hSw; (try dsimp only at hSw); go_simp; (try with_reducible rfl)); (try simp only [Act.put, List.setIfInBounds_toArray, List.set_cons_zero, List.set_cons_succ])))
        refine plan_do3 (by rfl) (fun K hK => ?_)
        go_simp
        refine hK.out _ _ ?_
        clear hK K
        (try simp only [Act.put, List.setIfInBounds_toArray, List.set_cons_zero, List.set_cons_succ])
        refine plan_end ?_
        have HSR6 := Lib.hid (HSR5.out.set (k := 1) (u := .int .i64 vl) rfl)
        clear HSR HSR5 x1 fx1 q3 t1 k0 k1 k2 k3 m2
        generalize (w5.setCell ⟨nx, 1, none⟩ (.int .i64 vl)) = W3 at *
        have HSR := HSR6
        clear HSR6
        have x0 : W3.cell? ⟨nx, 0, none⟩ = some (.int .i64 bf) := (cell_of_heap HSR.out.x).trans rfl
        have x1 : W3.cell? ⟨nx, 1, none⟩ = some (.int .i64 vl) := (cell_of_heap HSR.out.x).trans rfl
        have x2 : W3.cell? ⟨nx, 2, none⟩ = some (.int .i64 0) := (cell_of_heap HSR.out.x).trans rfl
        have fx2 : W3.frozen? ⟨nx, 2, none⟩ = false := frozen_of_heap HSR.out.x
        have m1 : W3.cell? ⟨nl, 1, none⟩ = some (.int .i64 l.margin) := (cell_of_heap HSR.out.l).trans rfl
        have hvb := HVB.out
        have hbb := HBB.out
        obtain ⟨hm0, hm1⟩ : 0 ≤ l.margin ∧ l.margin ≤ 100 := ⟨HSL.out.2.2.1, HSL.out.2.2.2.1⟩
        have hd1 : 0 ≤ 100 * vl / (100 + l.margin) := Int.ediv_nonneg (by omega) (by omega)
        have hd2 : 100 * vl / (100 + l.margin) ≤ 100 * vl := Int.ediv_le_self _ (by omega)
        by_cases hcall : 0 < bf - 100 * vl / (100 + l.margin)
        · go_wp2_with fail
          have wb : (100 * vl).tdiv (100 + l.margin) = 100 * vl / (100 + l.margin) := Int.tdiv_eq_ediv_of_nonneg (by omega)
          have wz : ¬ 100 + l.margin = 0 := by omega
          have wa : IntKind.i64.wrap (100 * vl) = 100 * vl := IntWalk.i64_in _ (by omega)
          have wc : IntKind.i64.wrap (100 + l.margin) = 100 + l.margin := IntWalk.i64_in _ (by omega)
          have we : IntKind.i64.wrap (100 * vl / (100 + l.margin)) = 100 * vl / (100 + l.margin) := IntWalk.i64_in _ (by omega)
          have wd : IntKind.i64.wrap (bf - 100 * vl / (100 + l.margin)) = bf - 100 * vl / (100 + l.margin) := IntWalk.i64_in _ (by omega)
          refine wp_region_plan (fun w' => w'.cell? ⟨nx, 0, none⟩ = some (.int .i64 bf) ∧ w'.cell? ⟨nx, 1, none⟩ = some (.int .i64 vl) ∧ w'.cell? ⟨nl, 1, none⟩ = some (.int .i64 l.margin))
            [(0, 0), (1, 1), (2, 0), (3, 1), (4, 0), (5, 0), (6, 1), (7, 0), (8, 0), (9, 0), (10, 0), (11, 0), (12, 3)] (by kernel_rfl) (by kernel_rfl) ⟨x0, x1, m1⟩ ?_
          repeat (first
            | (refine plan_look0 (v := ?_) rfl rfl ?_ ?_; rotate_left; focus (intro w'; go_simp; (try with_reducible rfl)); (try simp only [Act.put, List.setIfInBounds_toArray, List.set_cons_zero, List.set_cons_succ]))
            | (refine plan_look1 (v := ?_) rfl rfl ?_ ?_; rotate_left; focus (intro w' hSw; (try dsimp only at hSw); go_simp; (try with_reducible rfl)); (try simp only [Act.put, List.setIfInBounds_toArray, List.set_cons_zero, List.set_cons_succ])))
          refine plan_do3 (by rfl) (fun K hK => ?_)
          go_simp
          refine hK.out _ _ ?_
          clear hK K
          (try simp only [Act.put, List.setIfInBounds_toArray, List.set_cons_zero, List.set_cons_succ])
          refine plan_end ?_
          clear x0 x1 x2 fx2 m1 wa wb wc wd we wz
          have HCL : Hid (callN bf vl l.margin = (bf - 100 * vl / (100 + l.margin))) := by
            show callN bf vl l.margin = (bf - 100 * vl / (100 + l.margin))
            simp only [callN, limN]; omega
          have HSR3 := Lib.hid (HSR.out.set (k := 2) (u := .int .i64 (bf - 100 * vl / (100 + l.margin))) rfl).drew
          clear HSR
          go_wp2_with fail
          generalize (W3.setCell ⟨nx, 2, none⟩ (.int .i64 (bf - 100 * vl / (100 + l.margin)))).drew = W4 at *
          have HSR := HSR3
          clear HSR3
          have q5 : W4.cell? ⟨bw, 5, none⟩ = some (.map (some B)) := cell_map HW.out.map HSR.out.g ((cell_of_heap hbx).trans rfl)
          have t0 : W4.cell? ⟨ns, 0, none⟩ = some (.int .i64 i) := (cell_of_heap HSR.out.s).trans rfl
          have t1 : W4.cell? ⟨ns, 1, none⟩ = some (.int .i64 n) := (cell_of_heap HSR.out.s).trans rfl
          have x0 : W4.cell? ⟨nx, 0, none⟩ = some (.int .i64 bf) := (cell_of_heap HSR.out.x).trans rfl
          have x1 : W4.cell? ⟨nx, 1, none⟩ = some (.int .i64 vl) := (cell_of_heap HSR.out.x).trans rfl
          have x2 : W4.cell? ⟨nx, 2, none⟩ = some (.int .i64 (bf - 100 * vl / (100 + l.margin))) := (cell_of_heap HSR.out.x).trans rfl
          have HST : Hid (stV (allSt ls ps rs i n) = .agg #[.int .i64 bf, .int .i64 vl, .int .i64 (bf - 100 * vl / (100 + l.margin))]) := by
            show stV _ = _
            rw [HAS2.out, HBF.out, HCL.out]; rfl
          obtain ⟨W5, hput, hm5, hg5, hz5⟩ := put_st (w := W4.drew) HSR.out.drew.m i n
          rw [HST.out] at hput
          have hput2 : (Instr.mapUpdate 147 (.map (some B)) (.agg #[.int .i64 i, .int .i64 n]) (.agg #[.int .i64 bf, .int .i64 vl, .int .i64 (bf - 100 * vl / (100 + l.margin))])).run Try.prog W4.drew = .ok () W5 := hput
          have HSR5 := Lib.hid (HSR.out.drew.move hg5 hm5)
          clear hput hm5 hg5 hz5
          refine wp_region_plan (fun w' => w'.cell? ⟨bw, 5, none⟩ = some (.map (some B)) ∧ w'.cell? ⟨ns, 0, none⟩ = some (.int .i64 i) ∧ w'.cell? ⟨ns, 1, none⟩ = some (.int .i64 n) ∧ w'.cell? ⟨nx, 0, none⟩ = some (.int .i64 bf) ∧ w'.cell? ⟨nx, 1, none⟩ = some (.int .i64 vl) ∧ w'.cell? ⟨nx, 2, none⟩ = some (.int .i64 (bf - 100 * vl / (100 + l.margin))))
            [(0, 0), (1, 0), (2, 0), (3, 1), (4, 1), (5, 1), (6, 3)] (by kernel_rfl) (by kernel_rfl) ⟨q5, t0, t1, x0, x1, x2⟩ ?_
          repeat (first
            | (refine plan_look0 (v := ?_) rfl rfl ?_ ?_; rotate_left; focus (intro w'; go_simp; (try with_reducible rfl)); (try simp only [Act.put, List.setIfInBounds_toArray, List.set_cons_zero, List.set_cons_succ]))
            | (refine plan_look1 (v := ?_) rfl rfl ?_ ?_; rotate_left; focus (intro w' hSw; (try dsimp only at hSw); go_simp; (try with_reducible rfl)); (try simp only [Act.put, List.setIfInBounds_toArray, List.set_cons_zero, List.set_cons_succ])))
          refine plan_do3 (by rfl) (fun K hK => ?_)
          go_simp
          refine hK.out _ _ ?_
          clear hK K
          (try simp only [Act.put, List.setIfInBounds_toArray, List.set_cons_zero, List.set_cons_succ])
          refine plan_end ?_
          clear hput2 q5 t0 t1 x0 x1 x2 HSR
          have x0 : W5.cell? ⟨nx, 0, none⟩ = some (.int .i64 bf) := (cell_of_heap HSR5.out.x).trans rfl
          have x1 : W5.cell? ⟨nx, 1, none⟩ = some (.int .i64 vl) := (cell_of_heap HSR5.out.x).trans rfl
          have x2 : W5.cell? ⟨nx, 2, none⟩ = some (.int .i64 (bf - 100 * vl / (100 + l.margin))) := (cell_of_heap HSR5.out.x).trans rfl
          have y0 : W5.cell? ⟨nr, 0, none⟩ = some (.int .i64 0) := (cell_of_heap HSR5.out.r).trans rfl
          have y1 : W5.cell? ⟨nr, 1, none⟩ = some (.int .i64 0) := (cell_of_heap HSR5.out.r).trans rfl
          have y2 : W5.cell? ⟨nr, 2, none⟩ = some (.int .i64 0) := (cell_of_heap HSR5.out.r).trans rfl
          have f0 : W5.frozen? ⟨nr, 0, none⟩ = false := frozen_of_heap HSR5.out.r
          have f1 : W5.frozen? ⟨nr, 1, none⟩ = false := frozen_of_heap HSR5.out.r
          have f2 : W5.frozen? ⟨nr, 2, none⟩ = false := frozen_of_heap HSR5.out.r
          have lr := heap_lt HSR5.out.r
          go_wp2
          refine bodyPost_ret (v := .agg #[.int .i64 bf, .int .i64 vl, .int .i64 (bf - 100 * vl / (100 + l.margin))]) (by simp [results, Try.results56, go_sem, y0, y1, y2, f0, f1, f2]) rfl ⟨by rw [HST.out], ?_, ?_⟩
          · exact ret_grown HSR5.out.g (by have := HSR5.out.lo; omega)
          · exact ((HSR5.out.m.put HSR5.out.r).put (heap_setCell_same _ _ _ _ _ _ HSR5.out.r)).put (heap_setCell_same _ _ _ _ _ _ (heap_setCell_same _ _ _ _ _ _ HSR5.out.r))
        · go_wp2_with fail
          have wb : (100 * vl).tdiv (100 + l.margin) = 100 * vl / (100 + l.margin) := Int.tdiv_eq_ediv_of_nonneg (by omega)
          have wz : ¬ 100 + l.margin = 0 := by omega
          have wa : IntKind.i64.wrap (100 * vl) = 100 * vl := IntWalk.i64_in _ (by omega)
          have wc : IntKind.i64.wrap (100 + l.margin) = 100 + l.margin := IntWalk.i64_in _ (by omega)
          have we : IntKind.i64.wrap (100 * vl / (100 + l.margin)) = 100 * vl / (100 + l.margin) := IntWalk.i64_in _ (by omega)
          have wd : IntKind.i64.wrap (bf - 100 * vl / (100 + l.margin)) = bf - 100 * vl / (100 + l.margin) := IntWalk.i64_in _ (by omega)
          refine wp_region_plan (fun w' => w'.cell? ⟨nx, 0, none⟩ = some (.int .i64 bf) ∧ w'.cell? ⟨nx, 1, none⟩ = some (.int .i64 vl) ∧ w'.cell? ⟨nl, 1, none⟩ = some (.int .i64 l.margin))
            [(0, 0), (1, 1), (2, 0), (3, 1), (4, 0), (5, 0), (6, 1), (7, 0), (8, 0), (9, 0), (10, 0), (11, 0), (12, 3)] (by kernel_rfl) (by kernel_rfl) ⟨x0, x1, m1⟩ ?_
          repeat (first
            | (refine plan_look0 (v := ?_) rfl rfl ?_ ?_; rotate_left; focus (intro w'; go_simp; (try with_reducible rfl)); (try simp only [Act.put, List.setIfInBounds_toArray, List.set_cons_zero, List.set_cons_succ]))
            | (refine plan_look1 (v := ?_) rfl rfl ?_ ?_; rotate_left; focus (intro w' hSw; (try dsimp only at hSw); go_simp; (try with_reducible rfl)); (try simp only [Act.put, List.setIfInBounds_toArray, List.set_cons_zero, List.set_cons_succ])))
          refine plan_do3 (by rfl) (fun K hK => ?_)
          go_simp
          refine hK.out _ _ ?_
          clear hK K
          (try simp only [Act.put, List.setIfInBounds_toArray, List.set_cons_zero, List.set_cons_succ])
          refine plan_end ?_
          clear x0 x1 x2 fx2 m1 wa wb wc wd we wz
          have HCL : Hid (callN bf vl l.margin = 0) := by
            show callN bf vl l.margin = 0
            simp only [callN, limN]; omega
          have HSR3 := Lib.hid (HSR.out.set (k := 2) (u := .int .i64 0) rfl).drew
          clear HSR
          go_wp2_with fail
          generalize (W3.setCell ⟨nx, 2, none⟩ (.int .i64 0)).drew = W4 at *
          have HSR := HSR3
          clear HSR3
          have q5 : W4.cell? ⟨bw, 5, none⟩ = some (.map (some B)) := cell_map HW.out.map HSR.out.g ((cell_of_heap hbx).trans rfl)
          have t0 : W4.cell? ⟨ns, 0, none⟩ = some (.int .i64 i) := (cell_of_heap HSR.out.s).trans rfl
          have t1 : W4.cell? ⟨ns, 1, none⟩ = some (.int .i64 n) := (cell_of_heap HSR.out.s).trans rfl
          have x0 : W4.cell? ⟨nx, 0, none⟩ = some (.int .i64 bf) := (cell_of_heap HSR.out.x).trans rfl
          have x1 : W4.cell? ⟨nx, 1, none⟩ = some (.int .i64 vl) := (cell_of_heap HSR.out.x).trans rfl
          have x2 : W4.cell? ⟨nx, 2, none⟩ = some (.int .i64 0) := (cell_of_heap HSR.out.x).trans rfl
          have HST : Hid (stV (allSt ls ps rs i n) = .agg #[.int .i64 bf, .int .i64 vl, .int .i64 0]) := by
            show stV _ = _
            rw [HAS2.out, HBF.out, HCL.out]; rfl
          obtain ⟨W5, hput, hm5, hg5, hz5⟩ := put_st (w := W4.drew) HSR.out.drew.m i n
          rw [HST.out] at hput
          have hput2 : (Instr.mapUpdate 147 (.map (some B)) (.agg #[.int .i64 i, .int .i64 n]) (.agg #[.int .i64 bf, .int .i64 vl, .int .i64 0])).run Try.prog W4.drew = .ok () W5 := hput
          have HSR5 := Lib.hid (HSR.out.drew.move hg5 hm5)
          clear hput hm5 hg5 hz5
          refine wp_region_plan (fun w' => w'.cell? ⟨bw, 5, none⟩ = some (.map (some B)) ∧ w'.cell? ⟨ns, 0, none⟩ = some (.int .i64 i) ∧ w'.cell? ⟨ns, 1, none⟩ = some (.int .i64 n) ∧ w'.cell? ⟨nx, 0, none⟩ = some (.int .i64 bf) ∧ w'.cell? ⟨nx, 1, none⟩ = some (.int .i64 vl) ∧ w'.cell? ⟨nx, 2, none⟩ = some (.int .i64 0))
            [(0, 0), (1, 0), (2, 0), (3, 1), (4, 1), (5, 1), (6, 3)] (by kernel_rfl) (by kernel_rfl) ⟨q5, t0, t1, x0, x1, x2⟩ ?_
          repeat (first
            | (refine plan_look0 (v := ?_) rfl rfl ?_ ?_; rotate_left; focus (intro w'; go_simp; (try with_reducible rfl)); (try simp only [Act.put, List.setIfInBounds_toArray, List.set_cons_zero, List.set_cons_succ]))
            | (refine plan_look1 (v := ?_) rfl rfl ?_ ?_; rotate_left; focus (intro w' hSw; (try dsimp only at hSw); go_simp; (try with_reducible rfl)); (try simp only [Act.put, List.setIfInBounds_toArray, List.set_cons_zero, List.set_cons_succ])))
          refine plan_do3 (by rfl) (fun K hK => ?_)
          go_simp
          refine hK.out _ _ ?_
          clear hK K
          (try simp only [Act.put, List.setIfInBounds_toArray, List.set_cons_zero, List.set_cons_succ])
          refine plan_end ?_
          clear hput2 q5 t0 t1 x0 x1 x2 HSR
          have x0 : W5.cell? ⟨nx, 0, none⟩ = some (.int .i64 bf) := (cell_of_heap HSR5.out.x).trans rfl
          have x1 : W5.cell? ⟨nx, 1, none⟩ = some (.int .i64 vl) := (cell_of_heap HSR5.out.x).trans rfl
          have x2 : W5.cell? ⟨nx, 2, none⟩ = some (.int .i64 0) := (cell_of_heap HSR5.out.x).trans rfl
          have y0 : W5.cell? ⟨nr, 0, none⟩ = some (.int .i64 0) := (cell_of_heap HSR5.out.r).trans rfl
          have y1 : W5.cell? ⟨nr, 1, none⟩ = some (.int .i64 0) := (cell_of_heap HSR5.out.r).trans rfl
          have y2 : W5.cell? ⟨nr, 2, none⟩ = some (.int .i64 0) := (cell_of_heap HSR5.out.r).trans rfl
          have f0 : W5.frozen? ⟨nr, 0, none⟩ = false := frozen_of_heap HSR5.out.r
          have f1 : W5.frozen? ⟨nr, 1, none⟩ = false := frozen_of_heap HSR5.out.r
          have f2 : W5.frozen? ⟨nr, 2, none⟩ = false := frozen_of_heap HSR5.out.r
          have lr := heap_lt HSR5.out.r
          go_wp2
          refine bodyPost_ret (v := .agg #[.int .i64 bf, .int .i64 vl, .int .i64 0]) (by simp [results, Try.results56, go_sem, y0, y1, y2, f0, f1, f2]) rfl ⟨by rw [HST.out], ?_, ?_⟩
          · exact ret_grown HSR5.out.g (by have := HSR5.out.lo; omega)
          · exact ((HSR5.out.m.put HSR5.out.r).put (heap_setCell_same _ _ _ _ _ _ HSR5.out.r)).put (heap_setCell_same _ _ _ _ _ _ (heap_setCell_same _ _ _ _ _ _ HSR5.out.r))
      · have hnq := HNQ.out
        rw [hd] at hnq
        simp only [Bool.not_true] at hnq
        have HD := Lib.hid hd
        clear hd
        go_wp2_with fail
        go_quiet (fail)
        clear hnq HNQ hgd wr1
        have HEQ : Hid (yv = dot l.shares (ps.getD n [])) := by
          show yv = _
          have h1 := HLN.out n
          have h2 := HLN.out m
          have h3 : pad4 (ps.getD n []) = pad4 (ps.getD m []) := by simpa using HD.out
          rw [HYV.out, ← dot_pad l.shares (ps.getD m []) (by omega) (by omega), ← h3, dot_pad l.shares (ps.getD n []) (by omega) (by omega)]
        have HVB : Hid (0 ≤ yv ∧ yv ≤ 1000000) := by
          have h1 := dot_nonneg l.shares (ps.getD n []) (fun x hx => (HSL.out.2.2.2.2 x hx).1) (fun x hx => (HT2.out.1 n x hx).1)
          have h2 := dot_le l.shares (ps.getD n []) HSL.out.2.2.2.2 (HT2.out.1 n)
          have h3 := HEQ.out
          exact ⟨by omega, by omega⟩
        have HSR2 := Lib.hid (HSR.out.drewN (q := nq))
        have HAS2 := Lib.hid (HAS3.out r yv rfl HEQ.out)
        clear HSR t1 q3 k0 k1 k2 k3 j0 j1 j2 j3 HEQ HYV
        generalize W1.drewN nq = W2 at *
        have HSR := HSR2
        clear HSR2
        generalize yv = vl at *
        have x0 : W2.cell? ⟨nx, 0, none⟩ = some (.int .i64 bf) := (cell_of_heap HSR.out.x).trans rfl
        have x1 : W2.cell? ⟨nx, 1, none⟩ = some (.int .i64 vl) := (cell_of_heap HSR.out.x).trans rfl
        have x2 : W2.cell? ⟨nx, 2, none⟩ = some (.int .i64 0) := (cell_of_heap HSR.out.x).trans rfl
        have fx2 : W2.frozen? ⟨nx, 2, none⟩ = false := frozen_of_heap HSR.out.x
        have m1 : W2.cell? ⟨nl, 1, none⟩ = some (.int .i64 l.margin) := (cell_of_heap HSR.out.l).trans rfl
        have hvb := HVB.out
        have hbb := HBB.out
        obtain ⟨hm0, hm1⟩ : 0 ≤ l.margin ∧ l.margin ≤ 100 := ⟨HSL.out.2.2.1, HSL.out.2.2.2.1⟩
        have hd1 : 0 ≤ 100 * vl / (100 + l.margin) := Int.ediv_nonneg (by omega) (by omega)
        have hd2 : 100 * vl / (100 + l.margin) ≤ 100 * vl := Int.ediv_le_self _ (by omega)
        by_cases hcall : 0 < bf - 100 * vl / (100 + l.margin)
        · go_wp2_with fail
          have wb : (100 * vl).tdiv (100 + l.margin) = 100 * vl / (100 + l.margin) := Int.tdiv_eq_ediv_of_nonneg (by omega)
          have wz : ¬ 100 + l.margin = 0 := by omega
          have wa : IntKind.i64.wrap (100 * vl) = 100 * vl := IntWalk.i64_in _ (by omega)
          have wc : IntKind.i64.wrap (100 + l.margin) = 100 + l.margin := IntWalk.i64_in _ (by omega)
          have we : IntKind.i64.wrap (100 * vl / (100 + l.margin)) = 100 * vl / (100 + l.margin) := IntWalk.i64_in _ (by omega)
          have wd : IntKind.i64.wrap (bf - 100 * vl / (100 + l.margin)) = bf - 100 * vl / (100 + l.margin) := IntWalk.i64_in _ (by omega)
          refine wp_region_plan (fun w' => w'.cell? ⟨nx, 0, none⟩ = some (.int .i64 bf) ∧ w'.cell? ⟨nx, 1, none⟩ = some (.int .i64 vl) ∧ w'.cell? ⟨nl, 1, none⟩ = some (.int .i64 l.margin))
            [(0, 0), (1, 1), (2, 0), (3, 1), (4, 0), (5, 0), (6, 1), (7, 0), (8, 0), (9, 0), (10, 0), (11, 0), (12, 3)] (by kernel_rfl) (by kernel_rfl) ⟨x0, x1, m1⟩ ?_
          repeat (first
            | (refine plan_look0 (v := ?_) rfl rfl ?_ ?_; rotate_left; focus (intro w'; go_simp; (try with_reducible rfl)); (try simp only [Act.put, List.setIfInBounds_toArray, List.set_cons_zero, List.set_cons_succ]))
            | (refine plan_look1 (v := ?_) rfl rfl ?_ ?_; rotate_left; focus (intro w' hSw; (try dsimp only at hSw); go_simp; (try with_reducible rfl)); (try simp only [Act.put, List.setIfInBounds_toArray, List.set_cons_zero, List.set_cons_succ])))
          refine plan_do3 (by rfl) (fun K hK => ?_)
          go_simp
          refine hK.out _ _ ?_
          clear hK K
          (try simp only [Act.put, List.setIfInBounds_toArray, List.set_cons_zero, List.set_cons_succ])
          refine plan_end ?_
          clear x0 x1 x2 fx2 m1 wa wb wc wd we wz
          have HCL : Hid (callN bf vl l.margin = (bf - 100 * vl / (100 + l.margin))) := by
            show callN bf vl l.margin = (bf - 100 * vl / (100 + l.margin))
            simp only [callN, limN]; omega
          have HSR3 := Lib.hid (HSR.out.set (k := 2) (u := .int .i64 (bf - 100 * vl / (100 + l.margin))) rfl).drew
          clear HSR
          go_wp2_with fail
          generalize (W2.setCell ⟨nx, 2, none⟩ (.int .i64 (bf - 100 * vl / (100 + l.margin)))).drew = W4 at *
          have HSR := HSR3
          clear HSR3
          have q5 : W4.cell? ⟨bw, 5, none⟩ = some (.map (some B)) := cell_map HW.out.map HSR.out.g ((cell_of_heap hbx).trans rfl)
          have t0 : W4.cell? ⟨ns, 0, none⟩ = some (.int .i64 i) := (cell_of_heap HSR.out.s).trans rfl
          have t1 : W4.cell? ⟨ns, 1, none⟩ = some (.int .i64 n) := (cell_of_heap HSR.out.s).trans rfl
          have x0 : W4.cell? ⟨nx, 0, none⟩ = some (.int .i64 bf) := (cell_of_heap HSR.out.x).trans rfl
          have x1 : W4.cell? ⟨nx, 1, none⟩ = some (.int .i64 vl) := (cell_of_heap HSR.out.x).trans rfl
          have x2 : W4.cell? ⟨nx, 2, none⟩ = some (.int .i64 (bf - 100 * vl / (100 + l.margin))) := (cell_of_heap HSR.out.x).trans rfl
          have HST : Hid (stV (allSt ls ps rs i n) = .agg #[.int .i64 bf, .int .i64 vl, .int .i64 (bf - 100 * vl / (100 + l.margin))]) := by
            show stV _ = _
            rw [HAS2.out, HBF.out, HCL.out]; rfl
          obtain ⟨W5, hput, hm5, hg5, hz5⟩ := put_st (w := W4.drew) HSR.out.drew.m i n
          rw [HST.out] at hput
          have hput2 : (Instr.mapUpdate 147 (.map (some B)) (.agg #[.int .i64 i, .int .i64 n]) (.agg #[.int .i64 bf, .int .i64 vl, .int .i64 (bf - 100 * vl / (100 + l.margin))])).run Try.prog W4.drew = .ok () W5 := hput
          have HSR5 := Lib.hid (HSR.out.drew.move hg5 hm5)
          clear hput hm5 hg5 hz5
          refine wp_region_plan (fun w' => w'.cell? ⟨bw, 5, none⟩ = some (.map (some B)) ∧ w'.cell? ⟨ns, 0, none⟩ = some (.int .i64 i) ∧ w'.cell? ⟨ns, 1, none⟩ = some (.int .i64 n) ∧ w'.cell? ⟨nx, 0, none⟩ = some (.int .i64 bf) ∧ w'.cell? ⟨nx, 1, none⟩ = some (.int .i64 vl) ∧ w'.cell? ⟨nx, 2, none⟩ = some (.int .i64 (bf - 100 * vl / (100 + l.margin))))
            [(0, 0), (1, 0), (2, 0), (3, 1), (4, 1), (5, 1), (6, 3)] (by kernel_rfl) (by kernel_rfl) ⟨q5, t0, t1, x0, x1, x2⟩ ?_
          repeat (first
            | (refine plan_look0 (v := ?_) rfl rfl ?_ ?_; rotate_left; focus (intro w'; go_simp; (try with_reducible rfl)); (try simp only [Act.put, List.setIfInBounds_toArray, List.set_cons_zero, List.set_cons_succ]))
            | (refine plan_look1 (v := ?_) rfl rfl ?_ ?_; rotate_left; focus (intro w' hSw; (try dsimp only at hSw); go_simp; (try with_reducible rfl)); (try simp only [Act.put, List.setIfInBounds_toArray, List.set_cons_zero, List.set_cons_succ])))
          refine plan_do3 (by rfl) (fun K hK => ?_)
          go_simp
          refine hK.out _ _ ?_
          clear hK K
          (try simp only [Act.put, List.setIfInBounds_toArray, List.set_cons_zero, List.set_cons_succ])
          refine plan_end ?_
          clear hput2 q5 t0 t1 x0 x1 x2 HSR
          have x0 : W5.cell? ⟨nx, 0, none⟩ = some (.int .i64 bf) := (cell_of_heap HSR5.out.x).trans rfl
          have x1 : W5.cell? ⟨nx, 1, none⟩ = some (.int .i64 vl) := (cell_of_heap HSR5.out.x).trans rfl
          have x2 : W5.cell? ⟨nx, 2, none⟩ = some (.int .i64 (bf - 100 * vl / (100 + l.margin))) := (cell_of_heap HSR5.out.x).trans rfl
          have y0 : W5.cell? ⟨nr, 0, none⟩ = some (.int .i64 0) := (cell_of_heap HSR5.out.r).trans rfl
          have y1 : W5.cell? ⟨nr, 1, none⟩ = some (.int .i64 0) := (cell_of_heap HSR5.out.r).trans rfl
          have y2 : W5.cell? ⟨nr, 2, none⟩ = some (.int .i64 0) := (cell_of_heap HSR5.out.r).trans rfl
          have f0 : W5.frozen? ⟨nr, 0, none⟩ = false := frozen_of_heap HSR5.out.r
          have f1 : W5.frozen? ⟨nr, 1, none⟩ = false := frozen_of_heap HSR5.out.r
          have f2 : W5.frozen? ⟨nr, 2, none⟩ = false := frozen_of_heap HSR5.out.r
          have lr := heap_lt HSR5.out.r
          go_wp2
          refine bodyPost_ret (v := .agg #[.int .i64 bf, .int .i64 vl, .int .i64 (bf - 100 * vl / (100 + l.margin))]) (by simp [results, Try.results56, go_sem, y0, y1, y2, f0, f1, f2]) rfl ⟨by rw [HST.out], ?_, ?_⟩
          · exact ret_grown HSR5.out.g (by have := HSR5.out.lo; omega)
          · exact ((HSR5.out.m.put HSR5.out.r).put (heap_setCell_same _ _ _ _ _ _ HSR5.out.r)).put (heap_setCell_same _ _ _ _ _ _ (heap_setCell_same _ _ _ _ _ _ HSR5.out.r))
        · go_wp2_with fail
          have wb : (100 * vl).tdiv (100 + l.margin) = 100 * vl / (100 + l.margin) := Int.tdiv_eq_ediv_of_nonneg (by omega)
          have wz : ¬ 100 + l.margin = 0 := by omega
          have wa : IntKind.i64.wrap (100 * vl) = 100 * vl := IntWalk.i64_in _ (by omega)
          have wc : IntKind.i64.wrap (100 + l.margin) = 100 + l.margin := IntWalk.i64_in _ (by omega)
          have we : IntKind.i64.wrap (100 * vl / (100 + l.margin)) = 100 * vl / (100 + l.margin) := IntWalk.i64_in _ (by omega)
          have wd : IntKind.i64.wrap (bf - 100 * vl / (100 + l.margin)) = bf - 100 * vl / (100 + l.margin) := IntWalk.i64_in _ (by omega)
          refine wp_region_plan (fun w' => w'.cell? ⟨nx, 0, none⟩ = some (.int .i64 bf) ∧ w'.cell? ⟨nx, 1, none⟩ = some (.int .i64 vl) ∧ w'.cell? ⟨nl, 1, none⟩ = some (.int .i64 l.margin))
            [(0, 0), (1, 1), (2, 0), (3, 1), (4, 0), (5, 0), (6, 1), (7, 0), (8, 0), (9, 0), (10, 0), (11, 0), (12, 3)] (by kernel_rfl) (by kernel_rfl) ⟨x0, x1, m1⟩ ?_
          repeat (first
            | (refine plan_look0 (v := ?_) rfl rfl ?_ ?_; rotate_left; focus (intro w'; go_simp; (try with_reducible rfl)); (try simp only [Act.put, List.setIfInBounds_toArray, List.set_cons_zero, List.set_cons_succ]))
            | (refine plan_look1 (v := ?_) rfl rfl ?_ ?_; rotate_left; focus (intro w' hSw; (try dsimp only at hSw); go_simp; (try with_reducible rfl)); (try simp only [Act.put, List.setIfInBounds_toArray, List.set_cons_zero, List.set_cons_succ])))
          refine plan_do3 (by rfl) (fun K hK => ?_)
          go_simp
          refine hK.out _ _ ?_
          clear hK K
          (try simp only [Act.put, List.setIfInBounds_toArray, List.set_cons_zero, List.set_cons_succ])
          refine plan_end ?_
          clear x0 x1 x2 fx2 m1 wa wb wc wd we wz
          have HCL : Hid (callN bf vl l.margin = 0) := by
            show callN bf vl l.margin = 0
            simp only [callN, limN]; omega
          have HSR3 := Lib.hid (HSR.out.set (k := 2) (u := .int .i64 0) rfl).drew
          clear HSR
          go_wp2_with fail
          generalize (W2.setCell ⟨nx, 2, none⟩ (.int .i64 0)).drew = W4 at *
          have HSR := HSR3
          clear HSR3
          have q5 : W4.cell? ⟨bw, 5, none⟩ = some (.map (some B)) := cell_map HW.out.map HSR.out.g ((cell_of_heap hbx).trans rfl)
          have t0 : W4.cell? ⟨ns, 0, none⟩ = some (.int .i64 i) := (cell_of_heap HSR.out.s).trans rfl
          have t1 : W4.cell? ⟨ns, 1, none⟩ = some (.int .i64 n) := (cell_of_heap HSR.out.s).trans rfl
          have x0 : W4.cell? ⟨nx, 0, none⟩ = some (.int .i64 bf) := (cell_of_heap HSR.out.x).trans rfl
          have x1 : W4.cell? ⟨nx, 1, none⟩ = some (.int .i64 vl) := (cell_of_heap HSR.out.x).trans rfl
          have x2 : W4.cell? ⟨nx, 2, none⟩ = some (.int .i64 0) := (cell_of_heap HSR.out.x).trans rfl
          have HST : Hid (stV (allSt ls ps rs i n) = .agg #[.int .i64 bf, .int .i64 vl, .int .i64 0]) := by
            show stV _ = _
            rw [HAS2.out, HBF.out, HCL.out]; rfl
          obtain ⟨W5, hput, hm5, hg5, hz5⟩ := put_st (w := W4.drew) HSR.out.drew.m i n
          rw [HST.out] at hput
          have hput2 : (Instr.mapUpdate 147 (.map (some B)) (.agg #[.int .i64 i, .int .i64 n]) (.agg #[.int .i64 bf, .int .i64 vl, .int .i64 0])).run Try.prog W4.drew = .ok () W5 := hput
          have HSR5 := Lib.hid (HSR.out.drew.move hg5 hm5)
          clear hput hm5 hg5 hz5
          refine wp_region_plan (fun w' => w'.cell? ⟨bw, 5, none⟩ = some (.map (some B)) ∧ w'.cell? ⟨ns, 0, none⟩ = some (.int .i64 i) ∧ w'.cell? ⟨ns, 1, none⟩ = some (.int .i64 n) ∧ w'.cell? ⟨nx, 0, none⟩ = some (.int .i64 bf) ∧ w'.cell? ⟨nx, 1, none⟩ = some (.int .i64 vl) ∧ w'.cell? ⟨nx, 2, none⟩ = some (.int .i64 0))
            [(0, 0), (1, 0), (2, 0), (3, 1), (4, 1), (5, 1), (6, 3)] (by kernel_rfl) (by kernel_rfl) ⟨q5, t0, t1, x0, x1, x2⟩ ?_
          repeat (first
            | (refine plan_look0 (v := ?_) rfl rfl ?_ ?_; rotate_left; focus (intro w'; go_simp; (try with_reducible rfl)); (try simp only [Act.put, List.setIfInBounds_toArray, List.set_cons_zero, List.set_cons_succ]))
            | (refine plan_look1 (v := ?_) rfl rfl ?_ ?_; rotate_left; focus (intro w' hSw; (try dsimp only at hSw); go_simp; (try with_reducible rfl)); (try simp only [Act.put, List.setIfInBounds_toArray, List.set_cons_zero, List.set_cons_succ])))
          refine plan_do3 (by rfl) (fun K hK => ?_)
          go_simp
          refine hK.out _ _ ?_
          clear hK K
          (try simp only [Act.put, List.setIfInBounds_toArray, List.set_cons_zero, List.set_cons_succ])
          refine plan_end ?_
          clear hput2 q5 t0 t1 x0 x1 x2 HSR
          have x0 : W5.cell? ⟨nx, 0, none⟩ = some (.int .i64 bf) := (cell_of_heap HSR5.out.x).trans rfl
          have x1 : W5.cell? ⟨nx, 1, none⟩ = some (.int .i64 vl) := (cell_of_heap HSR5.out.x).trans rfl
          have x2 : W5.cell? ⟨nx, 2, none⟩ = some (.int .i64 0) := (cell_of_heap HSR5.out.x).trans rfl
          have y0 : W5.cell? ⟨nr, 0, none⟩ = some (.int .i64 0) := (cell_of_heap HSR5.out.r).trans rfl
          have y1 : W5.cell? ⟨nr, 1, none⟩ = some (.int .i64 0) := (cell_of_heap HSR5.out.r).trans rfl
          have y2 : W5.cell? ⟨nr, 2, none⟩ = some (.int .i64 0) := (cell_of_heap HSR5.out.r).trans rfl
          have f0 : W5.frozen? ⟨nr, 0, none⟩ = false := frozen_of_heap HSR5.out.r
          have f1 : W5.frozen? ⟨nr, 1, none⟩ = false := frozen_of_heap HSR5.out.r
          have f2 : W5.frozen? ⟨nr, 2, none⟩ = false := frozen_of_heap HSR5.out.r
          have lr := heap_lt HSR5.out.r
          go_wp2
          refine bodyPost_ret (v := .agg #[.int .i64 bf, .int .i64 vl, .int .i64 0]) (by simp [results, Try.results56, go_sem, y0, y1, y2, f0, f1, f2]) rfl ⟨by rw [HST.out], ?_, ?_⟩
          · exact ret_grown HSR5.out.g (by have := HSR5.out.lo; omega)
          · exact ((HSR5.out.m.put HSR5.out.r).put (heap_setCell_same _ _ _ _ _ _ HSR5.out.r)).put (heap_setCell_same _ _ _ _ _ _ (heap_setCell_same _ _ _ _ _ _ HSR5.out.r))
    · have HDB : Hid (0 ≤ l.money ∧ l.money ≤ 1000000) := by
        have := HSL.out
        exact ⟨this.1, by have := this.2.1; omega⟩
      have HAS : Hid (∀ r vl, rs.getD n 0 = r → vl = dot l.shares (ps.getD n []) → allSt ls ps rs i n = ⟨befN l.money r, vl, callN (befN l.money r) vl l.margin⟩) := by
        intro r vl e1 e2
        have hz : n = 0 := by omega
        subst hz
        rw [← e1, e2, ← HLL.out]; rfl
      go_wp2_with fail
      generalize l.money = dbt at *
      have q4 : W.cell? ⟨bw, 4, none⟩ = some (.slice ra rs.length rc) := cell_map HW.out.map HSR.out.g ((cell_of_heap hbx).trans rfl)
      obtain ⟨b2, off2, rfl, cr⟩ := (HW.out.rates.map HW.out.map HSR.out.g) n hnr
      have hrb := HT2.out.2 n
      generalize hr : rs.getD n 0 = r at *
      have HR := Lib.hid hr
      clear hr
      have hdb := HDB.out
      have hpr : 0 ≤ dbt * r ∧ dbt * r ≤ 1000000 * 100 := ⟨Int.mul_nonneg hdb.1 hrb.1, Int.le_trans (Int.mul_le_mul_of_nonneg_right hdb.2 hrb.1) (Int.mul_le_mul_of_nonneg_left hrb.2 (by omega))⟩
      have fx0 : W.frozen? ⟨nx, 0, none⟩ = false := frozen_of_heap HSR.out.x
      have x0 : W.cell? ⟨nx, 0, none⟩ = some (.int .i64 0) := (cell_of_heap HSR.out.x).trans rfl
      have hn0 : (0 : Int) ≤ (n : Int) := by omega
      have hnr1 : (n : Int) < (rs.length : Int) := by omega
      have hnp1 : (n : Int) < (ps.length : Int) := by omega
      go_wp2_with fail
      have wb : (dbt * r).tdiv 10000 = dbt * r / 10000 := Int.tdiv_eq_ediv_of_nonneg hpr.1
      have wa : IntKind.i64.wrap (dbt * r) = dbt * r := IntWalk.i64_in _ (by omega)
      have wc : IntKind.i64.wrap (dbt * r / 10000) = dbt * r / 10000 := IntWalk.i64_in _ (by omega)
      have wd : IntKind.i64.wrap (dbt + dbt * r / 10000) = dbt + dbt * r / 10000 := IntWalk.i64_in _ (by omega)
      refine wp_region_plan (fun w' => w'.cell? ⟨bw, 4, none⟩ = some (.slice (some ⟨b2, off2, none⟩) rs.length rc) ∧ w'.cell? ⟨ns, 1, none⟩ = some (.int .i64 n) ∧ w'.cell? ⟨b2, off2 + n, none⟩ = some (.int .i64 r))
        [(0, 0), (1, 0), (2, 0), (3, 0), (4, 0), (5, 1), (6, 0), (7, 1), (8, 0), (9, 1), (10, 0), (11, 0), (12, 0), (13, 0), (14, 3)] (by kernel_rfl) (by kernel_rfl) ⟨q4, t1, cr⟩ ?_
      repeat (first
        | (refine plan_look0 (v := ?_) rfl rfl ?_ ?_; rotate_left; focus (intro w'; go_simp; (try with_reducible rfl)); (try simp only [Act.put, List.setIfInBounds_toArray, List.set_cons_zero, List.set_cons_succ]))
        | (refine plan_look1 (v := ?_) rfl rfl ?_ ?_; rotate_left; focus (intro w' hSw; (try dsimp only at hSw); go_simp; (try with_reducible rfl)); (try simp only [Act.put, List.setIfInBounds_toArray, List.set_cons_zero, List.set_cons_succ])))
      refine plan_do3 (by rfl) (fun K hK => ?_)
      go_simp
      refine hK.out _ _ ?_
      clear hK K
      (try simp only [Act.put, List.setIfInBounds_toArray, List.set_cons_zero, List.set_cons_succ])
      refine plan_end ?_
      clear q4 cr x0 fx0 t0 t1 m0 wa wb wc wd
      have HSR1 := Lib.hid ((HSR.out.set (k := 0) (u := .int .i64 (dbt + dbt * r / 10000)) rfl).drew)
      have HBF : Hid (befN dbt r = dbt + dbt * r / 10000) := rfl
      have HBB : Hid (0 ≤ dbt + dbt * r / 10000 ∧ dbt + dbt * r / 10000 ≤ 2000000) := by
        show _ ∧ _
        omega
      generalize dbt + dbt * r / 10000 = bf at *
      clear HSR
      generalize (W.setCell ⟨nx, 0, none⟩ (.int .i64 bf)).drew = W1 at *
      have HSR := HSR1
      clear HSR1
      have q3 : W1.cell? ⟨bw, 3, none⟩ = some (.slice aa ps.length ac) := cell_map HW.out.map HSR.out.g ((cell_of_heap hbx).trans rfl)
      have t1 : W1.cell? ⟨ns, 1, none⟩ = some (.int .i64 n) := (cell_of_heap HSR.out.s).trans rfl
      obtain ⟨b3, off3, a0, a1, a2, a3, rfl, HA4, HP4, k0, k1, k2, k3⟩ := (HW.out.arrs.map HW.out.map HSR.out.g).get n hn
      have e0 : ((n : Int) == 0) = true := by simp; omega
      go_wp2_with fail
      go_quiet (fail)
      have HSR2 := Lib.hid (HSR.out.drewN (q := nq))
      replace k0 := (cell_below (below_drewN' (Below.refl _ _) nq) k0)
      replace k1 := (cell_below (below_drewN' (Below.refl _ _) nq) k1)
      replace k2 := (cell_below (below_drewN' (Below.refl _ _) nq) k2)
      replace k3 := (cell_below (below_drewN' (Below.refl _ _) nq) k3)
      replace q3 := (cell_below (below_drewN' (Below.refl _ _) nq) q3)
      clear HSR t1
      generalize W1.drewN nq = W2 at *
      have HSR := HSR2
      clear HSR2
      have t1 : W2.cell? ⟨ns, 1, none⟩ = some (.int .i64 n) := (cell_of_heap HSR.out.s).trans rfl
      have m2 : W2.cell? ⟨nl, 2, none⟩ = some (.slice sa l.shares.length sc) := (cell_of_heap HSR.out.l).trans rfl
      have HSH3 := Lib.hid (HSH.out.map HW.out.map HSR.out.g)
      have HPV : Hid (∀ W' : World, IntsAt W' sa l.shares → Calls Try.prog 81 #[.agg #[.int .i64 a0, .int .i64 a1, .int .i64 a2, .int .i64 a3], .slice sa l.shares.length sc] W' fun e w' => e = .returned (.int .i64 (dot l.shares (ps.getD n []))) ∧ Below W'.heap.size W' w') := fun W' h => by
        have hl2 := HLN.out n
        have := pvalue_any sa l.shares (ps.getD n []) sc W' hs4 (fun x hx => by have := HSL.out.2.2.2.2 x hx; omega) ?_ h
        · rw [HA4.out, dot_pad _ _ (by omega) (by omega)] at this
          exact this
        · intro x hx
          have h5 := HT2.out.1 n
          simp only [pad4, List.mem_cons, List.not_mem_nil, or_false] at hx
          have : ∀ j, 0 ≤ (ps.getD n []).getD j 0 ∧ (ps.getD n []).getD j 0 ≤ 1000000 := fun j => by
            by_cases hj : j < (ps.getD n []).length
            · have := h5 _ (getD_mem (d := 0) hj); omega
            · rw [List.getD_eq_getElem?_getD, List.getElem?_eq_none (by omega)]; simp
          rcases hx with rfl | rfl | rfl | rfl <;> exact this _
      have HVB : Hid (0 ≤ dot l.shares (ps.getD n []) ∧ dot l.shares (ps.getD n []) ≤ 1000000) := by
        have h1 := dot_nonneg l.shares (ps.getD n []) (fun x hx => (HSL.out.2.2.2.2 x hx).1) (fun x hx => (HT2.out.1 n x hx).1)
        have h2 := dot_le l.shares (ps.getD n []) HSL.out.2.2.2.2 (HT2.out.1 n)
        exact ⟨h1, by omega⟩
      have HAS2 := Lib.hid (HAS.out r _ rfl rfl)
      generalize dot l.shares (ps.getD n []) = vl at *
      go_wp2_with fail
      refine wp_region_plan (fun w' => w'.cell? ⟨bw, 3, none⟩ = some (.slice (some ⟨b3, off3, none⟩) ps.length ac) ∧ w'.cell? ⟨ns, 1, none⟩ = some (.int .i64 n) ∧ w'.cell? ⟨b3, off3 + n * 4, none⟩ = some (.int .i64 a0) ∧ w'.cell? ⟨b3, off3 + n * 4 + 1, none⟩ = some (.int .i64 a1) ∧ w'.cell? ⟨b3, off3 + n * 4 + 2, none⟩ = some (.int .i64 a2) ∧ w'.cell? ⟨b3, off3 + n * 4 + 3, none⟩ = some (.int .i64 a3) ∧ w'.cell? ⟨nl, 2, none⟩ = some (.slice sa l.shares.length sc))
        [(0, 0), (1, 0), (2, 0), (3, 1), (4, 0), (5, 1), (6, 0), (7, 1), (8, 0), (9, 1), (10, 3), (11, 0), (12, 3)] (by kernel_rfl) (by kernel_rfl) ⟨q3, t1, k0, k1, k2, k3, m2⟩ ?_
      repeat (first
        | (refine plan_look0 (v := ?_) rfl rfl ?_ ?_; rotate_left; focus (intro w'; go_simp; (try with_reducible rfl)); (try simp only [Act.put, List.setIfInBounds_toArray, List.set_cons_zero, List.set_cons_succ]))
        | (refine plan_look1 (v := ?_) rfl rfl ?_ ?_; rotate_left; focus (intro w' hSw; (try dsimp only at hSw); go_simp; (try with_reducible rfl)); (try simp only [Act.put, List.setIfInBounds_toArray, List.set_cons_zero, List.set_cons_succ])))
      refine plan_do3 (by rfl) (fun K hK => ?_)
      go_simp
      refine (HPV.out _ ?_).mono ?_
      · exact HSH3.out
      rintro e w5 ⟨rfl, hb5⟩
      have HSR5 := Lib.hid (HSR.out.drew.below hb5)
      clear hb5
      have fx1 : w5.frozen? ⟨nx, 1, none⟩ = false := frozen_of_heap HSR5.out.x
      have x1 := (cell_of_heap (k := 1) HSR5.out.x).trans rfl
      go_wp2_with fail
      refine hK.out _ _ ?_
      clear hK K
      (try simp only [Act.put, List.setIfInBounds_toArray, List.set_cons_zero, List.set_cons_succ])
      repeat (first
        | (refine plan_look0 (v := ?_) rfl rfl ?_ ?_; rotate_left; focus (intro w'; go_simp; (try with_reducible rfl)); (try simp only [Act.put, List.setIfInBounds_toArray, List.set_cons_zero, List.set_cons_succ]))
        | (refine plan_look1 (v := ?_) rfl rfl ?_ ?_; rotate_left; focus (intro w' hSw; (try dsimp only at hSw); go_simp; (try with_reducible rfl)); (try simp only [Act.put, List.setIfInBounds_toArray, List.set_cons_zero, List.set_cons_succ])))
      refine plan_do3 (by rfl) (fun K hK => ?_)
      go_simp
      refine hK.out _ _ ?_
      clear hK K
      (try simp only [Act.put, List.setIfInBounds_toArray, List.set_cons_zero, List.set_cons_succ])
      refine plan_end ?_
      have HSR6 := Lib.hid (HSR5.out.set (k := 1) (u := .int .i64 vl) rfl)
      clear HSR HSR5 x1 fx1 q3 t1 k0 k1 k2 k3 m2
      generalize (w5.setCell ⟨nx, 1, none⟩ (.int .i64 vl)) = W3 at *
      have HSR := HSR6
      clear HSR6
      have x0 : W3.cell? ⟨nx, 0, none⟩ = some (.int .i64 bf) := (cell_of_heap HSR.out.x).trans rfl
      have x1 : W3.cell? ⟨nx, 1, none⟩ = some (.int .i64 vl) := (cell_of_heap HSR.out.x).trans rfl
      have x2 : W3.cell? ⟨nx, 2, none⟩ = some (.int .i64 0) := (cell_of_heap HSR.out.x).trans rfl
      have fx2 : W3.frozen? ⟨nx, 2, none⟩ = false := frozen_of_heap HSR.out.x
      have m1 : W3.cell? ⟨nl, 1, none⟩ = some (.int .i64 l.margin) := (cell_of_heap HSR.out.l).trans rfl
      have hvb := HVB.out
      have hbb := HBB.out
      obtain ⟨hm0, hm1⟩ : 0 ≤ l.margin ∧ l.margin ≤ 100 := ⟨HSL.out.2.2.1, HSL.out.2.2.2.1⟩
      have hd1 : 0 ≤ 100 * vl / (100 + l.margin) := Int.ediv_nonneg (by omega) (by omega)
      have hd2 : 100 * vl / (100 + l.margin) ≤ 100 * vl := Int.ediv_le_self _ (by omega)
      by_cases hcall : 0 < bf - 100 * vl / (100 + l.margin)
      · go_wp2_with fail
        have wb : (100 * vl).tdiv (100 + l.margin) = 100 * vl / (100 + l.margin) := Int.tdiv_eq_ediv_of_nonneg (by omega)
        have wz : ¬ 100 + l.margin = 0 := by omega
        have wa : IntKind.i64.wrap (100 * vl) = 100 * vl := IntWalk.i64_in _ (by omega)
        have wc : IntKind.i64.wrap (100 + l.margin) = 100 + l.margin := IntWalk.i64_in _ (by omega)
        have we : IntKind.i64.wrap (100 * vl / (100 + l.margin)) = 100 * vl / (100 + l.margin) := IntWalk.i64_in _ (by omega)
        have wd : IntKind.i64.wrap (bf - 100 * vl / (100 + l.margin)) = bf - 100 * vl / (100 + l.margin) := IntWalk.i64_in _ (by omega)
        refine wp_region_plan (fun w' => w'.cell? ⟨nx, 0, none⟩ = some (.int .i64 bf) ∧ w'.cell? ⟨nx, 1, none⟩ = some (.int .i64 vl) ∧ w'.cell? ⟨nl, 1, none⟩ = some (.int .i64 l.margin))
          [(0, 0), (1, 1), (2, 0), (3, 1), (4, 0), (5, 0), (6, 1), (7, 0), (8, 0), (9, 0), (10, 0), (11, 0), (12, 3)] (by kernel_rfl) (by kernel_rfl) ⟨x0, x1, m1⟩ ?_
        repeat (first
          | (refine plan_look0 (v := ?_) rfl rfl ?_ ?_; rotate_left; focus (intro w'; go_simp; (try with_reducible rfl)); (try simp only [Act.put, List.setIfInBounds_toArray, List.set_cons_zero, List.set_cons_succ]))
          | (refine plan_look1 (v := ?_) rfl rfl ?_ ?_; rotate_left; focus (intro w' hSw; (try dsimp only at hSw); go_simp; (try with_reducible rfl)); (try simp only [Act.put, List.setIfInBounds_toArray, List.set_cons_zero, List.set_cons_succ])))
        refine plan_do3 (by rfl) (fun K hK => ?_)
        go_simp
        refine hK.out _ _ ?_
        clear hK K
        (try simp only [Act.put, List.setIfInBounds_toArray, List.set_cons_zero, List.set_cons_succ])
        refine plan_end ?_
        clear x0 x1 x2 fx2 m1 wa wb wc wd we wz
        have HCL : Hid (callN bf vl l.margin = (bf - 100 * vl / (100 + l.margin))) := by
          show callN bf vl l.margin = (bf - 100 * vl / (100 + l.margin))
          simp only [callN, limN]; omega
        have HSR3 := Lib.hid (HSR.out.set (k := 2) (u := .int .i64 (bf - 100 * vl / (100 + l.margin))) rfl).drew
        clear HSR
        go_wp2_with fail
        generalize (W3.setCell ⟨nx, 2, none⟩ (.int .i64 (bf - 100 * vl / (100 + l.margin)))).drew = W4 at *
        have HSR := HSR3
        clear HSR3
        have q5 : W4.cell? ⟨bw, 5, none⟩ = some (.map (some B)) := cell_map HW.out.map HSR.out.g ((cell_of_heap hbx).trans rfl)
        have t0 : W4.cell? ⟨ns, 0, none⟩ = some (.int .i64 i) := (cell_of_heap HSR.out.s).trans rfl
        have t1 : W4.cell? ⟨ns, 1, none⟩ = some (.int .i64 n) := (cell_of_heap HSR.out.s).trans rfl
        have x0 : W4.cell? ⟨nx, 0, none⟩ = some (.int .i64 bf) := (cell_of_heap HSR.out.x).trans rfl
        have x1 : W4.cell? ⟨nx, 1, none⟩ = some (.int .i64 vl) := (cell_of_heap HSR.out.x).trans rfl
        have x2 : W4.cell? ⟨nx, 2, none⟩ = some (.int .i64 (bf - 100 * vl / (100 + l.margin))) := (cell_of_heap HSR.out.x).trans rfl
        have HST : Hid (stV (allSt ls ps rs i n) = .agg #[.int .i64 bf, .int .i64 vl, .int .i64 (bf - 100 * vl / (100 + l.margin))]) := by
          show stV _ = _
          rw [HAS2.out, HBF.out, HCL.out]; rfl
        obtain ⟨W5, hput, hm5, hg5, hz5⟩ := put_st (w := W4.drew) HSR.out.drew.m i n
        rw [HST.out] at hput
        have hput2 : (Instr.mapUpdate 147 (.map (some B)) (.agg #[.int .i64 i, .int .i64 n]) (.agg #[.int .i64 bf, .int .i64 vl, .int .i64 (bf - 100 * vl / (100 + l.margin))])).run Try.prog W4.drew = .ok () W5 := hput
        have HSR5 := Lib.hid (HSR.out.drew.move hg5 hm5)
        clear hput hm5 hg5 hz5
        refine wp_region_plan (fun w' => w'.cell? ⟨bw, 5, none⟩ = some (.map (some B)) ∧ w'.cell? ⟨ns, 0, none⟩ = some (.int .i64 i) ∧ w'.cell? ⟨ns, 1, none⟩ = some (.int .i64 n) ∧ w'.cell? ⟨nx, 0, none⟩ = some (.int .i64 bf) ∧ w'.cell? ⟨nx, 1, none⟩ = some (.int .i64 vl) ∧ w'.cell? ⟨nx, 2, none⟩ = some (.int .i64 (bf - 100 * vl / (100 + l.margin))))
          [(0, 0), (1, 0), (2, 0), (3, 1), (4, 1), (5, 1), (6, 3)] (by kernel_rfl) (by kernel_rfl) ⟨q5, t0, t1, x0, x1, x2⟩ ?_
        repeat (first
          | (refine plan_look0 (v := ?_) rfl rfl ?_ ?_; rotate_left; focus (intro w'; go_simp; (try with_reducible rfl)); (try simp only [Act.put, List.setIfInBounds_toArray, List.set_cons_zero, List.set_cons_succ]))
          | (refine plan_look1 (v := ?_) rfl rfl ?_ ?_; rotate_left; focus (intro w' hSw; (try dsimp only at hSw); go_simp; (try with_reducible rfl)); (try simp only [Act.put, List.setIfInBounds_toArray, List.set_cons_zero, List.set_cons_succ])))
        refine plan_do3 (by rfl) (fun K hK => ?_)
        go_simp
        refine hK.out _ _ ?_
        clear hK K
        (try simp only [Act.put, List.setIfInBounds_toArray, List.set_cons_zero, List.set_cons_succ])
        refine plan_end ?_
        clear hput2 q5 t0 t1 x0 x1 x2 HSR
        have x0 : W5.cell? ⟨nx, 0, none⟩ = some (.int .i64 bf) := (cell_of_heap HSR5.out.x).trans rfl
        have x1 : W5.cell? ⟨nx, 1, none⟩ = some (.int .i64 vl) := (cell_of_heap HSR5.out.x).trans rfl
        have x2 : W5.cell? ⟨nx, 2, none⟩ = some (.int .i64 (bf - 100 * vl / (100 + l.margin))) := (cell_of_heap HSR5.out.x).trans rfl
        have y0 : W5.cell? ⟨nr, 0, none⟩ = some (.int .i64 0) := (cell_of_heap HSR5.out.r).trans rfl
        have y1 : W5.cell? ⟨nr, 1, none⟩ = some (.int .i64 0) := (cell_of_heap HSR5.out.r).trans rfl
        have y2 : W5.cell? ⟨nr, 2, none⟩ = some (.int .i64 0) := (cell_of_heap HSR5.out.r).trans rfl
        have f0 : W5.frozen? ⟨nr, 0, none⟩ = false := frozen_of_heap HSR5.out.r
        have f1 : W5.frozen? ⟨nr, 1, none⟩ = false := frozen_of_heap HSR5.out.r
        have f2 : W5.frozen? ⟨nr, 2, none⟩ = false := frozen_of_heap HSR5.out.r
        have lr := heap_lt HSR5.out.r
        go_wp2
        refine bodyPost_ret (v := .agg #[.int .i64 bf, .int .i64 vl, .int .i64 (bf - 100 * vl / (100 + l.margin))]) (by simp [results, Try.results56, go_sem, y0, y1, y2, f0, f1, f2]) rfl ⟨by rw [HST.out], ?_, ?_⟩
        · exact ret_grown HSR5.out.g (by have := HSR5.out.lo; omega)
        · exact ((HSR5.out.m.put HSR5.out.r).put (heap_setCell_same _ _ _ _ _ _ HSR5.out.r)).put (heap_setCell_same _ _ _ _ _ _ (heap_setCell_same _ _ _ _ _ _ HSR5.out.r))
      · go_wp2_with fail
        have wb : (100 * vl).tdiv (100 + l.margin) = 100 * vl / (100 + l.margin) := Int.tdiv_eq_ediv_of_nonneg (by omega)
        have wz : ¬ 100 + l.margin = 0 := by omega
        have wa : IntKind.i64.wrap (100 * vl) = 100 * vl := IntWalk.i64_in _ (by omega)
        have wc : IntKind.i64.wrap (100 + l.margin) = 100 + l.margin := IntWalk.i64_in _ (by omega)
        have we : IntKind.i64.wrap (100 * vl / (100 + l.margin)) = 100 * vl / (100 + l.margin) := IntWalk.i64_in _ (by omega)
        have wd : IntKind.i64.wrap (bf - 100 * vl / (100 + l.margin)) = bf - 100 * vl / (100 + l.margin) := IntWalk.i64_in _ (by omega)
        refine wp_region_plan (fun w' => w'.cell? ⟨nx, 0, none⟩ = some (.int .i64 bf) ∧ w'.cell? ⟨nx, 1, none⟩ = some (.int .i64 vl) ∧ w'.cell? ⟨nl, 1, none⟩ = some (.int .i64 l.margin))
          [(0, 0), (1, 1), (2, 0), (3, 1), (4, 0), (5, 0), (6, 1), (7, 0), (8, 0), (9, 0), (10, 0), (11, 0), (12, 3)] (by kernel_rfl) (by kernel_rfl) ⟨x0, x1, m1⟩ ?_
        repeat (first
          | (refine plan_look0 (v := ?_) rfl rfl ?_ ?_; rotate_left; focus (intro w'; go_simp; (try with_reducible rfl)); (try simp only [Act.put, List.setIfInBounds_toArray, List.set_cons_zero, List.set_cons_succ]))
          | (refine plan_look1 (v := ?_) rfl rfl ?_ ?_; rotate_left; focus (intro w' hSw; (try dsimp only at hSw); go_simp; (try with_reducible rfl)); (try simp only [Act.put, List.setIfInBounds_toArray, List.set_cons_zero, List.set_cons_succ])))
        refine plan_do3 (by rfl) (fun K hK => ?_)
        go_simp
        refine hK.out _ _ ?_
        clear hK K
        (try simp only [Act.put, List.setIfInBounds_toArray, List.set_cons_zero, List.set_cons_succ])
        refine plan_end ?_
        clear x0 x1 x2 fx2 m1 wa wb wc wd we wz
        have HCL : Hid (callN bf vl l.margin = 0) := by
          show callN bf vl l.margin = 0
          simp only [callN, limN]; omega
        have HSR3 := Lib.hid (HSR.out.set (k := 2) (u := .int .i64 0) rfl).drew
        clear HSR
        go_wp2_with fail
        generalize (W3.setCell ⟨nx, 2, none⟩ (.int .i64 0)).drew = W4 at *
        have HSR := HSR3
        clear HSR3
        have q5 : W4.cell? ⟨bw, 5, none⟩ = some (.map (some B)) := cell_map HW.out.map HSR.out.g ((cell_of_heap hbx).trans rfl)
        have t0 : W4.cell? ⟨ns, 0, none⟩ = some (.int .i64 i) := (cell_of_heap HSR.out.s).trans rfl
        have t1 : W4.cell? ⟨ns, 1, none⟩ = some (.int .i64 n) := (cell_of_heap HSR.out.s).trans rfl
        have x0 : W4.cell? ⟨nx, 0, none⟩ = some (.int .i64 bf) := (cell_of_heap HSR.out.x).trans rfl
        have x1 : W4.cell? ⟨nx, 1, none⟩ = some (.int .i64 vl) := (cell_of_heap HSR.out.x).trans rfl
        have x2 : W4.cell? ⟨nx, 2, none⟩ = some (.int .i64 0) := (cell_of_heap HSR.out.x).trans rfl
        have HST : Hid (stV (allSt ls ps rs i n) = .agg #[.int .i64 bf, .int .i64 vl, .int .i64 0]) := by
          show stV _ = _
          rw [HAS2.out, HBF.out, HCL.out]; rfl
        obtain ⟨W5, hput, hm5, hg5, hz5⟩ := put_st (w := W4.drew) HSR.out.drew.m i n
        rw [HST.out] at hput
        have hput2 : (Instr.mapUpdate 147 (.map (some B)) (.agg #[.int .i64 i, .int .i64 n]) (.agg #[.int .i64 bf, .int .i64 vl, .int .i64 0])).run Try.prog W4.drew = .ok () W5 := hput
        have HSR5 := Lib.hid (HSR.out.drew.move hg5 hm5)
        clear hput hm5 hg5 hz5
        refine wp_region_plan (fun w' => w'.cell? ⟨bw, 5, none⟩ = some (.map (some B)) ∧ w'.cell? ⟨ns, 0, none⟩ = some (.int .i64 i) ∧ w'.cell? ⟨ns, 1, none⟩ = some (.int .i64 n) ∧ w'.cell? ⟨nx, 0, none⟩ = some (.int .i64 bf) ∧ w'.cell? ⟨nx, 1, none⟩ = some (.int .i64 vl) ∧ w'.cell? ⟨nx, 2, none⟩ = some (.int .i64 0))
          [(0, 0), (1, 0), (2, 0), (3, 1), (4, 1), (5, 1), (6, 3)] (by kernel_rfl) (by kernel_rfl) ⟨q5, t0, t1, x0, x1, x2⟩ ?_
        repeat (first
          | (refine plan_look0 (v := ?_) rfl rfl ?_ ?_; rotate_left; focus (intro w'; go_simp; (try with_reducible rfl)); (try simp only [Act.put, List.setIfInBounds_toArray, List.set_cons_zero, List.set_cons_succ]))
          | (refine plan_look1 (v := ?_) rfl rfl ?_ ?_; rotate_left; focus (intro w' hSw; (try dsimp only at hSw); go_simp; (try with_reducible rfl)); (try simp only [Act.put, List.setIfInBounds_toArray, List.set_cons_zero, List.set_cons_succ])))
        refine plan_do3 (by rfl) (fun K hK => ?_)
        go_simp
        refine hK.out _ _ ?_
        clear hK K
        (try simp only [Act.put, List.setIfInBounds_toArray, List.set_cons_zero, List.set_cons_succ])
        refine plan_end ?_
        clear hput2 q5 t0 t1 x0 x1 x2 HSR
        have x0 : W5.cell? ⟨nx, 0, none⟩ = some (.int .i64 bf) := (cell_of_heap HSR5.out.x).trans rfl
        have x1 : W5.cell? ⟨nx, 1, none⟩ = some (.int .i64 vl) := (cell_of_heap HSR5.out.x).trans rfl
        have x2 : W5.cell? ⟨nx, 2, none⟩ = some (.int .i64 0) := (cell_of_heap HSR5.out.x).trans rfl
        have y0 : W5.cell? ⟨nr, 0, none⟩ = some (.int .i64 0) := (cell_of_heap HSR5.out.r).trans rfl
        have y1 : W5.cell? ⟨nr, 1, none⟩ = some (.int .i64 0) := (cell_of_heap HSR5.out.r).trans rfl
        have y2 : W5.cell? ⟨nr, 2, none⟩ = some (.int .i64 0) := (cell_of_heap HSR5.out.r).trans rfl
        have f0 : W5.frozen? ⟨nr, 0, none⟩ = false := frozen_of_heap HSR5.out.r
        have f1 : W5.frozen? ⟨nr, 1, none⟩ = false := frozen_of_heap HSR5.out.r
        have f2 : W5.frozen? ⟨nr, 2, none⟩ = false := frozen_of_heap HSR5.out.r
        have lr := heap_lt HSR5.out.r
        go_wp2
        refine bodyPost_ret (v := .agg #[.int .i64 bf, .int .i64 vl, .int .i64 0]) (by simp [results, Try.results56, go_sem, y0, y1, y2, f0, f1, f2]) rfl ⟨by rw [HST.out], ?_, ?_⟩
        · exact ret_grown HSR5.out.g (by have := HSR5.out.lo; omega)
        · exact ((HSR5.out.m.put HSR5.out.r).put (heap_setCell_same _ _ _ _ _ _ HSR5.out.r)).put (heap_setCell_same _ _ _ _ _ _ (heap_setCell_same _ _ _ _ _ _ HSR5.out.r))
end Go.Proofs.Ytfiacjdkdjkiiaa
