/- Bounds of the reference: its drawn regions. -/
import Derived.Test.YtfiacjdkdjkiiaaZsMr
import Derived.Test.YtfiacjdkdjkiiaaZsNt
import Derived.Test.YtfiacjdkdjkiiaaZsWr
namespace Go.Proofs.Ytfiacjdkdjkiiaa
open Go Go.RowKit Go.Tl
set_option linter.unusedVariables false
set_option linter.unusedSimpArgs false
set_option maxRecDepth 100000
set_option maxHeartbeats 4000000
attribute [local irreducible] AWP AWL AOp PV LV AWT AWE
abbrev bnB (g : Nat) (b : BankD) : Ent := .cl g 25 [intA b.stocks, .t (daysT false b.days), .t (loansT false b.loans)]
/-- the bounds over the first truths -/
def wdN (f : Nat → List Int) : Nat → List Rng
  | 0 => []
  | n + 1 => wdL (wdN f n) (f n) (decide ((n : Int) = 0))
theorem bn_5 {b : BankD} {i n g2 : Nat} {u6 u7 : AV} (hv : Valid b) (hi : i < b.loans.length) (hn : 0 ≤ (n : Int) ∧ (n : Int) ≤ 10000) {ops : Array Oper} (h : regF Try.f33 5 = some ops) :
    AWP Try.prog Try.f33.ntmps none (.region 5 ops true) (cutQ (fun s h => s = [(1, intA i), (2, .v (.pointer (some ⟨g2, 0, none⟩))), (6, u6), (7, u7), (8, intA n), (10, .t (intsT true (callsR b (nthD b n) i b.days.length))), (11, .t (intsT true (debtsR b (nthD b n) i b.days.length)))] ∧ h = [bnB g2 b]))
      [(1, intA i), (2, .v (.pointer (some ⟨g2, 0, none⟩))), (6, u6), (7, u7), (8, intA n)] [bnB g2 b] := by
  cases h
  refine awp_tree T0 [(0, 1), (1, 1), (2, 0), (4, 0), (3, 2), (5, 3), (6, 0), (7, 0), (8, 0), (9, 0), (10, 0), (11, 0), (12, 0)] (.op 0 1 (.op 1 1 (.op 2 0 (.op 4 0 (.op 3 2 (.op 5 3 (.op 6 0 (.op 7 0 (.op 8 0 (.op 9 0 (.op 10 0 (.op 11 0 (.op 12 0 .stop))))))))))))) _ rfl (by kernel_rfl) (SubH.refl _) ?_
  refine awt_lo rfl (wt_none rfl) (lv_cla T0 rfl rfl rfl (by solve | repeat' constructor) rfl) rfl rfl rfl ?_
  refine awt_lo rfl (wt_none rfl) (lv_cla T0 rfl rfl rfl (by solve | repeat' constructor) rfl) rfl rfl rfl ?_
  refine awt_po rfl (wt_none rfl) (pv_move rfl rfl) rfl rfl ?_
  refine awt_po rfl (wt_none rfl) (pv_move rfl rfl) rfl rfl ?_
  refine awt_h (hm := []) rfl (wt_none rfl) (by solve | repeat' constructor) rfl (st_call T0 (nth_p false b n hv hn) rfl rfl rfl rfl (by first | exact callee_lit | exact callee_v | exact callee_fn) (by solve | repeat' constructor) rfl rfl ?_)
  rintro _ rfl
  refine awt_s (md := fun _ => True) rfl (wt_none rfl) (st_call T0 (run_p b (nthD b n) i hv (nth_truth hv hn.1) hi) rfl rfl rfl rfl (by first | exact callee_lit | exact callee_v | exact callee_fn) (by solve | repeat' constructor) rfl rfl ?_)
  rintro _ rfl
  refine awe_p rfl (wt_none rfl) (pv_move rfl rfl) rfl rfl ?_
  refine awe_p rfl (wt_none rfl) (pv_extract rfl rfl rfl) rfl rfl ?_
  refine awe_p rfl (wt_none rfl) (pv_extract rfl rfl rfl) rfl rfl ?_
  refine awe_p rfl (wt_none rfl) (pv_extract rfl rfl rfl) rfl rfl ?_
  refine awe_p rfl (wt_none rfl) (pv_assign rfl rfl) rfl rfl ?_
  refine awe_p rfl (wt_none rfl) (pv_assign rfl rfl) rfl rfl ?_
  refine awe_p rfl (wt_none rfl) (pv_assign rfl rfl) rfl rfl ?_
  refine awe_end ?_
  exact cut_n ⟨rfl, rfl⟩ (by first | ((repeat' (first | exact True.intro | refine ⟨rfl, ?_⟩)); all_goals fail) | fail) (by solve | repeat' constructor)
theorem wdN_len {f : Nat → List Int} {D : Nat} (h : ∀ n, (f n).length = D) : ∀ n, n ≠ 0 → (wdN f n).length = D := fun n hn => by
  cases n with
  | zero => exact absurd rfl hn
  | succ n => show ((List.range (f n).length).map _).length = D; simp [h]
theorem nil_rngs {w : World} {S : Nat → Prop} : TRel w S (rngsT true []) (.slice none 0 0) :=
  .sl (fun _ _ => .bool false) (fun _ => Nat.le_refl _) (fun k hk => absurd hk (by simp)) (fun k hk => absurd hk (by simp)) (fun k j x hk => absurd hk (by simp))
theorem bounds_r (b : BankD) (i : Nat) (hv : Valid b) (hi : i < b.loans.length) (hm : dP b.days ≤ 10000) (hmany : PCall Try.prog 63 [bankA false b] (fun r => r = intA (dP b.days))) : PCall Try.prog 33 [bankA false b, intA i]
    (fun r => r = .tup [.t (rngsT true (wdN (fun n => debtsR b (nthD b n) i b.days.length) (dP b.days).toNat)), .t (rngsT true (wdN (fun n => callsR b (nthD b n) i b.days.length) (dP b.days).toNat))]) := by
  have hd4 := hv.days
  have hp := dP_pos (okD hv)
  have hM : ((dP b.days).toNat : Int) = dP b.days := Int.toNat_of_nonneg (by omega)
  generalize hM2 : (dP b.days).toNat = M at *
  have hl1 : ∀ n : Nat, (debtsR b (nthD b n) i b.days.length).length = b.days.length := fun n => by simp [debtsR]
  have hl2 : ∀ n : Nat, (callsR b (nthD b n) i b.days.length).length = b.days.length := fun n => by simp [callsR]
  refine acall_of_awp T0 Try.func33 rfl rfl rfl ?_
  repeat (first | refine awp_seq ?_ | refine awp_region_lit rfl ?_)
  refine awl_hw (wt_none rfl) (st_box rfl rfl rfl (by simp only [cellsA]; rfl) rfl rfl ?_)
  intro g2
  repeat (first | refine awp_seq ?_ | refine awp_block ?_ | refine awp_region_lit rfl ?_ | (show AWL _ _ _ (⟨_, .assign _, _, _, _, _⟩ :: _) _ _ _; refine awl_pw (wt_none rfl) (pv_assign rfl rfl) rfl rfl ?_) | refine awl_nil ?_)
  refine awp_ghost (ghost_none (d := 6) (t := rngsT true []) rfl fun _ _ => nil_rngs) ?_
  refine awp_ghost (ghost_none (d := 7) (t := rngsT true []) rfl fun _ _ => nil_rngs) ?_
  refine awp_loop (fun m s h => ∃ (n : Nat), n ≤ M ∧ m = M - n ∧ s = [(1, intA i), (2, .v (.pointer (some ⟨g2, 0, none⟩))), (6, .t (rngsT true (wdN (fun n => debtsR b (nthD b n) i b.days.length) n))), (7, .t (rngsT true (wdN (fun n => callsR b (nthD b n) i b.days.length) n))), (8, intA n)] ∧ h = [bnB g2 b]) ?_ ⟨0, Nat.zero_le _, rfl, rfl, rfl⟩ (by first | ((repeat' (first | exact True.intro | refine ⟨rfl, ?_⟩)); all_goals fail) | fail) (by solve | repeat' constructor)
  as_aux_lemma =>
    rintro m s h ⟨n, hn, rfl, rfl, rfl⟩
    by_cases hnt : n < M
    · repeat (first | refine awp_seq ?_ | refine awp_region_lit rfl ?_ | (show AWL _ _ _ (⟨_, .move _, _, _, _, _⟩ :: _) _ _ _; refine awl_pw (wt_none rfl) (pv_move rfl rfl) rfl rfl ?_) | (show AWL _ _ _ (⟨_, .load _ _, _, _, _, _⟩ :: _) _ _ _; refine awl_lw (wt_none rfl) (lv_cla T0 rfl rfl rfl (by solve | repeat' constructor) rfl) rfl rfl rfl ?_))
      refine awl_hw (wt_none rfl) (st_call T0 (hmany) rfl rfl rfl rfl (by first | exact callee_lit | exact callee_v | exact callee_fn) (by solve | repeat' constructor) rfl rfl ?_)
      rintro _ rfl
      repeat (first | refine awp_seq ?_ | refine awp_block ?_ | refine awp_skip ?_ | refine then_n ?_ | refine awp_cond_t rfl (by first | rfl | assumption | exact dT (by omega)) ?_ | (show AWL _ _ _ (⟨_, .binOp .lss _ _ _ _, _, _, _, _⟩ :: _) _ _ _; refine awl_pw (wt_none rfl) (pv_lss rfl rfl rfl) rfl rfl ?_) | refine awl_nil ?_)
      refine awp_cut _ (awp_weak (by first | ((repeat' (first | exact True.intro | refine ⟨rfl, ?_⟩)); all_goals fail) | fail) (by solve | repeat' constructor) (bn_5 hv hi (by omega) rfl)) ?_
      rintro s h ⟨rfl, rfl⟩
      repeat (first | refine awp_region_lit rfl ?_ | (show AWL _ _ _ (⟨_, .move _, _, _, _, _⟩ :: _) _ _ _; refine awl_pw (wt_none rfl) (pv_move rfl rfl) rfl rfl ?_) | (show AWL _ _ _ (⟨_, .binOp .eql _ _ _ _, _, _, _, _⟩ :: _) _ _ _; refine awl_pw (wt_none rfl) (pv_eql rfl rfl rfl) rfl rfl ?_))
      refine awl_hw (wt_none rfl) (st_call T0 (wider_r true true (wdN (fun n => debtsR b (nthD b n) i b.days.length) n) (debtsR b (nthD b n) i b.days.length) (decide ((n : Int) = 0)) (by rw [hl1]; omega) (fun hz => by rw [hl1]; exact wdN_len hl1 n (by have := of_decide_eq_false hz; omega))) rfl rfl rfl rfl (by first | exact callee_lit | exact callee_v | exact callee_fn) (by solve | repeat' constructor) rfl rfl ?_)
      rintro _ rfl
      repeat (first | (show AWL _ _ _ (⟨_, .move _, _, _, _, _⟩ :: _) _ _ _; refine awl_pw (wt_none rfl) (pv_move rfl rfl) rfl rfl ?_) | (show AWL _ _ _ (⟨_, .binOp .eql _ _ _ _, _, _, _, _⟩ :: _) _ _ _; refine awl_pw (wt_none rfl) (pv_eql rfl rfl rfl) rfl rfl ?_))
      refine awl_hw (wt_none rfl) (st_call T0 (wider_r true true (wdN (fun n => callsR b (nthD b n) i b.days.length) n) (callsR b (nthD b n) i b.days.length) (decide ((n : Int) = 0)) (by rw [hl2]; omega) (fun hz => by rw [hl2]; exact wdN_len hl2 n (by have := of_decide_eq_false hz; omega))) rfl rfl rfl rfl (by first | exact callee_lit | exact callee_v | exact callee_fn) (by solve | repeat' constructor) rfl rfl ?_)
      rintro _ rfl
      repeat (first | refine awp_region_lit rfl ?_ | (show AWL _ _ _ (⟨_, .move _, _, _, _, _⟩ :: _) _ _ _; refine awl_pw (wt_none rfl) (pv_move rfl rfl) rfl rfl ?_) | (show AWL _ _ _ (⟨_, .assign _, _, _, _, _⟩ :: _) _ _ _; refine awl_pw (wt_none rfl) (pv_assign rfl rfl) rfl rfl ?_) | (show AWL _ _ _ (⟨_, .binOp .add _ _ _ _, _, _, _, _⟩ :: _) _ _ _; refine awl_pw (wt_none rfl) (pv_add rfl rfl rfl (by first | assumption | exact wr64 (by omega))) rfl rfl ?_) | refine awl_nil ?_)
      refine rnd_n _ _ _ ?_ ⟨n + 1, hnt, rfl, rfl, rfl⟩ (by first | ((repeat' (first | exact True.intro | refine ⟨rfl, ?_⟩)); all_goals fail) | fail) (by solve | repeat' constructor)
      omega
    obtain rfl : n = M := by omega
    repeat (first | refine awp_seq ?_ | refine awp_region_lit rfl ?_ | (show AWL _ _ _ (⟨_, .move _, _, _, _, _⟩ :: _) _ _ _; refine awl_pw (wt_none rfl) (pv_move rfl rfl) rfl rfl ?_) | (show AWL _ _ _ (⟨_, .load _ _, _, _, _, _⟩ :: _) _ _ _; refine awl_lw (wt_none rfl) (lv_cla T0 rfl rfl rfl (by solve | repeat' constructor) rfl) rfl rfl rfl ?_))
    refine awl_hw (wt_none rfl) (st_call T0 (hmany) rfl rfl rfl rfl (by first | exact callee_lit | exact callee_v | exact callee_fn) (by solve | repeat' constructor) rfl rfl ?_)
    rintro _ rfl
    repeat (first | refine awp_seq ?_ | refine awp_region_lit rfl ?_ | refine awp_exit ?_ | refine awp_ret ?_ | refine then_n ?_ | refine awp_cond_f rfl (by first | rfl | assumption | exact dF (by omega)) ?_ | (show AWL _ _ _ (⟨_, .move _, _, _, _, _⟩ :: _) _ _ _; refine awl_pw (wt_none rfl) (pv_move rfl rfl) rfl rfl ?_) | (show AWL _ _ _ (⟨_, .assign _, _, _, _, _⟩ :: _) _ _ _; refine awl_pw (wt_none rfl) (pv_assign rfl rfl) rfl rfl ?_) | (show AWL _ _ _ (⟨_, .binOp .lss _ _ _ _, _, _, _, _⟩ :: _) _ _ _; refine awl_pw (wt_none rfl) (pv_lss rfl rfl rfl) rfl rfl ?_) | refine awl_nil ?_)
    exact body_p (.cons rfl (.cons rfl .nil)) rfl
end Go.Proofs.Ytfiacjdkdjkiiaa
