/- Truths picked by words, their prices an owned list: the walk. -/
import Derived.Test.YtlpknbneilgjkaaMPk
import Derived.Test.YtlpknbneilgjkaaMGMa
import Derived.Test.YtlpknbneilgjkaaMGBs
import Derived.Test.YtlpknbneilgjkaaGTy
import Derived.Test.YtlpknbneilgjkaaGTs
import Derived.Test.YtlpknbneilgjkaaGTx
namespace Go.Proofs.Ytlpknbneilgjkaa.M
open Go Go.RowKit Go.Tl
set_option linter.unusedVariables false
set_option maxRecDepth 100000
set_option linter.unusedSimpArgs false
set_option maxHeartbeats 2000000
attribute [local irreducible] AWP AWL AOp PV LV AWT AWE
theorem picked_o (cp cp' : Bool) (b : BankD) (ws : List Int) (hv : Valid b) (hw : Words ws) (hl : ws.length ≤ 9223372036854775807) : ACall Try.prog 13 [bankA cp b, .t (wordsT cp' ws)] [] (fun r h' => ∃ ga c, r = .ag [.v (.slice (some ⟨ga, 0, none⟩) b.days.length c), .t (intsT true (pickRs b ws b.days.length))] ∧ h' = [.rw (.slice (some ⟨ga, 0, none⟩) b.days.length c) 29 1 ((pickPs b ws b.days.length).map lstRow)]) := by
  have hst := hv.st
  have hd := hv.days
  refine acall_of_awp T0 Try.func13 rfl rfl rfl ?_
  repeat (first | refine awp_seq ?_ | refine awp_region_lit rfl ?_)
  refine awl_hw (wt_none rfl) (st_box rfl rfl raA (by first | assumption | (simp only [cellsA]; rfl)) rfl rfl ?_)
  intro g2
  skip
  refine awl_hw (wt_none rfl) (st_alloc T0 rfl rfl rfl rfl scA ?_)
  intro g4
  repeat (first | refine awp_seq ?_ | refine awp_region_lit rfl ?_ | refine awl_nil ?_)
  refine awl_hw (wt_none rfl) (st_alloc T0 rfl rfl rfl rfl scA ?_)
  intro g5
  repeat (first | refine awp_seq ?_ | refine awp_block ?_ | refine awp_region_lit rfl ?_ | (show AWL _ _ _ (⟨_, .assign _, _, _, _, _⟩ :: _) _ _ _; refine awl_pw (wt_none rfl) (pv_assign rfl rfl) rfl rfl ?_) | refine awl_nil ?_)
  refine awp_ghost (ghost_nilrow 29 1) ?_
  refine awp_ghost (ghost_nilrow 3 1) ?_
  refine awp_loop (fun m s h => ∃ (i : Nat) (a : Option Addr) (c : Nat) (a' : Option Addr) (c' : Nat) (r1 r2 : List (List AV)), i ≤ b.days.length ∧ (1 ≤ i → ∃ g, a = some ⟨g, 0, none⟩) ∧ m = b.days.length - i ∧ r1 = (pickPs b ws i).map lstRow ∧ r2 = (pickRs b ws i).map intRow ∧
    s = [(1, .t (wordsT cp' ws)), (2, .v (.pointer (some ⟨g2, 0, none⟩))), (4, .v (.pointer (some ⟨g4, 0, none⟩))), (5, .v (.pointer (some ⟨g5, 0, none⟩))), (6, intA i)] ∧
    h = [.cl g2 25 [intA b.stocks, .t (daysT cp b.days), .t (loansT false b.loans)], .cl g4 31 [noneA, noneA], .cl g5 31 [.v (.slice a i c), .v (.slice a' i c')], .rw (.slice a i c) 29 1 r1, .rw (.slice a' i c') 3 1 r2]) ?_ ⟨0, _, _, _, _, _, _, Nat.zero_le _, (fun h => absurd h (by omega)), rfl, rfl, rfl, rfl, rfl⟩ ssA rcA
  rintro m s h ⟨i, a, c, a', c', r1, r2, hi, hsome, rfl, hr1, hr2, rfl, rfl⟩
  have hn1 : r1.length = i := by rw [hr1]; simp [pickPs]
  have hn2 : r2.length = i := by rw [hr2]; simp [pickRs]
  by_cases hit : i < b.days.length
  case neg =>
    have ei : i = b.days.length := by omega
    obtain ⟨ga, rfl⟩ := hsome (by omega)
    subst ei
    subst hr1
    refine awp_ghost (ghost_freeze_cell (g := g5) (j := 1) (v := .slice a' b.days.length c') (E := 3) (sz := 1) (rows := r2) (n := (pickRs b ws b.days.length).length) (fun q => [.sc (.int .i64 ((pickRs b ws b.days.length).getD q 0))]) rcA rcA rfl rfl (by rw [hn2]; simp [pickRs]) ?_) ?_
    · rw [hr2]
      exact intRows_tree (pickRs b ws b.days.length)
    repeat (first | refine awp_seq ?_ | refine awp_region_lit rfl ?_ | refine awp_exit ?_ | refine awp_ret ?_ | with_reducible refine then_n ?_ | refine awp_cond_f rfl (by first | rfl | assumption | exact dF (by omega)) ?_ | (show AWL _ _ _ (⟨_, .move _, _, _, _, _⟩ :: _) _ _ _; refine awl_pw (wt_none rfl) (pv_move rfl rfl) rfl rfl ?_) | (show AWL _ _ _ (⟨_, .load _ _, _, _, _, _⟩ :: _) _ _ _; refine awl_lw (wt_none rfl) (lv_cl1 T0 rfl rfl rfl rcA raA) rfl rfl rfl ?_) | (show AWL _ _ _ (⟨_, .load _ _, _, _, _, _⟩ :: _) _ _ _; refine awl_lw (wt_none rfl) (lv_cla T0 rfl rfl rfl rcA rfl) rfl rfl rfl ?_) | (show AWL _ _ _ (⟨_, .fieldAddr _ _ _, _, _, _, _⟩ :: _) _ _ _; refine awl_pw (wt_none rfl) (pv_fa T0 rfl rfl rfl (by simp; rfl)) rfl rfl ?_) | (show AWL _ _ _ (⟨_, .binOp .lss _ _ _ _, _, _, _, _⟩ :: _) _ _ _; refine awl_pw (wt_none rfl) (pv_lss rfl rfl rfl) rfl rfl ?_) | (show AWL _ _ _ (⟨_, .call ⟨.builtin .len, _, _⟩, _, _, _, _⟩ :: _) _ _ _; refine awl_pw (wt_none rfl) (pv_len_t T0 rfl rfl rfl) rfl rfl ?_) | (show AWL _ _ _ (⟨_, .store _ _ _, _, _, _, _⟩ :: _) _ _ _; refine awl_hw (wt_none rfl) (st_store T0 rfl rfl rfl rfl rfl (by first | assumption | (simp only [cellsA]; rfl)) rfl rfl rfl rcA rcA trivial ?_)) | refine awl_nil ?_)
    refine body_r (h' := [.rw (.slice (some ⟨ga, 0, none⟩) b.days.length c) 29 1 ((pickPs b ws b.days.length).map lstRow)]) (.cons ⟨g4, _, _, _, _, rfl, rfl, rcA, ?_, .inl rfl, rfl⟩ .nil) rcA ⟨ga, c, rfl, rfl⟩
    · simp
  have hrt := hv.rate i hit
  have hpl := hv.plen i hit
  have hpr := hv.price i hit
  have hw1 := word_in hw (5 * (i : Int)) (by omega)
  repeat (first | refine awp_seq ?_ | refine awp_block ?_ | refine awp_region_lit rfl ?_ | refine awp_skip ?_ | with_reducible refine then_n ?_ | refine awp_cond_t rfl (by first | rfl | assumption | exact dT (by omega)) ?_ | (show AWL _ _ _ (⟨_, .move _, _, _, _, _⟩ :: _) _ _ _; refine awl_pw (wt_none rfl) (pv_move rfl rfl) rfl rfl ?_) | (show AWL _ _ _ (⟨_, .load _ _, _, _, _, _⟩ :: _) _ _ _; refine awl_lw (wt_none rfl) (lv_cl1 T0 rfl rfl rfl rcA raA) rfl rfl rfl ?_) | (show AWL _ _ _ (⟨_, .fieldAddr _ _ _, _, _, _, _⟩ :: _) _ _ _; refine awl_pw (wt_none rfl) (pv_fa T0 rfl rfl rfl (by simp; rfl)) rfl rfl ?_) | (show AWL _ _ _ (⟨_, .binOp .lss _ _ _ _, _, _, _, _⟩ :: _) _ _ _; refine awl_pw (wt_none rfl) (pv_lss rfl rfl rfl) rfl rfl ?_) | (show AWL _ _ _ (⟨_, .call ⟨.builtin .len, _, _⟩, _, _, _, _⟩ :: _) _ _ _; refine awl_pw (wt_none rfl) (pv_len_t T0 rfl rfl rfl) rfl rfl ?_) | refine awl_nil ?_)
  refine awp_tree T0 [(0, 0), (1, 1), (2, 0), (3, 1), (4, 0), (5, 0), (6, 0), (7, 1), (8, 0), (9, 0), (10, 0), (11, 2), (12, 2), (13, 2), (14, 3), (15, 0), (16, 3)] (.op 0 0 (.op 1 1 (.op 2 0 (.op 3 1 (.op 4 0 (.op 5 0 (.op 6 0 (.op 7 1 (.op 8 0 (.op 9 0 (.op 10 0 (.op 11 2 (.op 12 2 (.op 13 2 (.op 14 3 (.op 15 0 (.op 16 3 .stop))))))))))))))))) _ rfl (by kernel_rfl) (SubH.refl _) ?_
  refine awt_po rfl (wt_none rfl) (pv_fa T0 rfl rfl rfl (by simp; rfl)) rfl rfl ?_
  refine awt_lo rfl (wt_none rfl) (lv_cl1 T0 rfl rfl rfl rcA raA) rfl rfl rfl ?_
  refine awt_po rfl (wt_none rfl) (pv_fa T0 rfl rfl rfl (by simp; rfl)) rfl rfl ?_
  refine awt_lo rfl (wt_none rfl) (lv_cl1 T0 rfl rfl rfl rcA raA) rfl rfl rfl ?_
  refine awt_po rfl (wt_none rfl) (pv_move rfl rfl) rfl rfl ?_
  refine awt_po rfl (wt_none rfl) (pv_ix_t T0 rfl rfl rfl rfl (by omega) ixA) rfl rfl ?_
  refine awt_po rfl (wt_none rfl) (pv_fa_elt T0 rfl rfl rfl (by simp; rfl)) rfl rfl ?_
  refine awt_lo rfl (wt_none rfl) (lv_elt_pt T0 rfl rfl rfl rfl rcA rfl) rfl rfl rfl ?_
  refine awt_po rfl (wt_none rfl) (pv_move rfl rfl) rfl rfl ?_
  refine awt_po rfl (wt_none rfl) (pv_move rfl rfl) rfl rfl ?_
  refine awt_po rfl (wt_none rfl) (pv_mul rfl rfl rfl (by first | assumption | exact wr64 (by omega))) rfl rfl ?_
  refine awt_h (hm := []) rfl (wt_none rfl) rcA rfl (st_call T0 (word_p cp' ws (5 * (i : Int)) hw hl (by omega) (by omega)) rfl rfl rfl rfl (by first | exact callee_lit | exact callee_v | exact callee_fn | assumption) rcA raA rfl ?_)
  rintro _ rfl
  refine awt_h (hm := []) rfl (wt_none rfl) rcA rfl (st_call T0 (pick_p (b.days.getD i default).rate (wordN ws (5 * (i : Int))) hrt.1 hrt.2.1 (by omega) hw1.1 hw1.2) rfl rfl rfl rfl (by first | exact callee_lit | exact callee_v | exact callee_fn | assumption) rcA raA rfl ?_)
  rintro _ rfl
  refine awt_h (hm := []) rfl (wt_none rfl) rcA rfl (st_bsl T0 rfl rfl rfl rfl rfl rcA rfl rfl rfl rfl (by simp only [List.map_cons, List.map_nil, cellsA]; rfl) ?_)
  intro g29
  refine awt_s (md := fun _ => True) rfl (wt_none rfl) (st_app T0 rfl rfl rfl rfl rfl rfl rfl rfl rfl rcA rcA rfl rfl hn2 (by omega) (fun _ _ => trivial) ?_)
  intro a30 c30 p30
  first
    | refine awe_p rfl (wt_none rfl) (pv_fa T0 rfl rfl rfl (by simp; rfl)) rfl rfl ?_
    | refine awe_p rfl (wt_none rfl) (pv_fa_elt T0 rfl rfl rfl (by simp; rfl)) rfl rfl ?_
    | refine awe_p rfl (wt_none rfl) (pv_fa_rp T0 rfl rfl rfl (by simp; rfl)) rfl rfl ?_
  refine awe_s (md := fun _ => True) rfl (wt_none rfl) (st_store T0 rfl rfl rfl rfl rfl (by first | assumption | (simp only [cellsA]; rfl)) rfl rfl rfl rcA rcA trivial ?_)
  refine awe_end ?_
  repeat (first | refine awp_seq ?_ | refine awp_block ?_ | refine awp_region_lit rfl ?_ | (show AWL _ _ _ (⟨_, .assign _, _, _, _, _⟩ :: _) _ _ _; refine awl_pw (wt_none rfl) (pv_assign rfl rfl) rfl rfl ?_) | refine awl_nil ?_)
  refine awp_ghost (ghost_nilrow 3 1) ?_
  refine awp_loop (fun m s h => ∃ (j : Nat) (a2 : Option Addr) (c2 : Nat) (r3 : List (List AV)), j ≤ b.stocks.toNat ∧ m = b.stocks.toNat - j ∧ r3 = (pickRow b ws i j).map intRow ∧
    s = [(1, .t (wordsT cp' ws)), (2, .v (.pointer (some ⟨g2, 0, none⟩))), (4, .v (.pointer (some ⟨g4, 0, none⟩))), (5, .v (.pointer (some ⟨g5, 0, none⟩))), (6, intA i), (7, .v (.slice a2 j c2)), (8, intA j)] ∧
    h = [.cl g2 25 [intA b.stocks, .t (daysT cp b.days), .t (loansT false b.loans)], .cl g4 31 [noneA, noneA], .cl g5 31 [.v (.slice a i c), .v (.slice a30 (i + 1) c30)], .rw (.slice a i c) 29 1 r1, .rw (.slice a30 (i + 1) c30) 3 1 (r2 ++ [[intA (pickN (b.days.getD i default).rate (wordN ws (5 * (i : Int))))]]), .rw (.slice a2 j c2) 3 1 r3]) ?_ ⟨0, _, _, _, Nat.zero_le _, rfl, rfl, rfl, rfl⟩ ssA rcA
  rintro m s h ⟨j, a2, c2, r3, hj, rfl, hr3, rfl, rfl⟩
  have hn3 : r3.length = j := by rw [hr3]; simp [pickRow]
  by_cases hjt : j < b.stocks.toNat
  · have hw2 := word_in hw (5 * (i : Int) + j + 1) (by omega)
    have hp2 := hpr j (by omega)
    repeat (first | refine awp_seq ?_ | refine awp_block ?_ | refine awp_region_lit rfl ?_ | refine awp_skip ?_ | with_reducible refine then_n ?_ | refine awp_cond_t rfl (by first | rfl | assumption | exact dT (by omega)) ?_ | (show AWL _ _ _ (⟨_, .move _, _, _, _, _⟩ :: _) _ _ _; refine awl_pw (wt_none rfl) (pv_move rfl rfl) rfl rfl ?_) | (show AWL _ _ _ (⟨_, .load _ _, _, _, _, _⟩ :: _) _ _ _; refine awl_lw (wt_none rfl) (lv_cl1 T0 rfl rfl rfl rcA raA) rfl rfl rfl ?_) | (show AWL _ _ _ (⟨_, .fieldAddr _ _ _, _, _, _, _⟩ :: _) _ _ _; refine awl_pw (wt_none rfl) (pv_fa T0 rfl rfl rfl (by simp; rfl)) rfl rfl ?_) | (show AWL _ _ _ (⟨_, .binOp .lss _ _ _ _, _, _, _, _⟩ :: _) _ _ _; refine awl_pw (wt_none rfl) (pv_lss rfl rfl rfl) rfl rfl ?_) | refine awl_nil ?_)
    refine awp_tree T0 [(0, 0), (1, 0), (2, 1), (3, 0), (4, 0), (5, 0), (6, 1), (7, 0), (8, 0), (9, 1), (10, 0), (11, 0), (12, 0), (13, 0), (14, 0), (15, 0), (16, 2), (17, 3), (18, 3), (19, 3), (20, 0)] (.op 0 0 (.op 1 0 (.op 2 1 (.op 3 0 (.op 4 0 (.op 5 0 (.op 6 1 (.op 7 0 (.op 8 0 (.op 9 1 (.op 10 0 (.op 11 0 (.op 12 0 (.op 13 0 (.op 14 0 (.op 15 0 (.op 16 2 (.op 17 3 (.op 18 3 (.op 19 3 (.op 20 0 .stop))))))))))))))))))))) _ rfl (by kernel_rfl) (SubH.refl _) ?_
    refine awt_po rfl (wt_none rfl) (pv_move rfl rfl) rfl rfl ?_
    refine awt_po rfl (wt_none rfl) (pv_fa T0 rfl rfl rfl (by simp; rfl)) rfl rfl ?_
    refine awt_lo rfl (wt_none rfl) (lv_cl1 T0 rfl rfl rfl rcA raA) rfl rfl rfl ?_
    refine awt_po rfl (wt_none rfl) (pv_move rfl rfl) rfl rfl ?_
    refine awt_po rfl (wt_none rfl) (pv_ix_t T0 rfl rfl rfl rfl (by omega) ixA) rfl rfl ?_
    refine awt_po rfl (wt_none rfl) (pv_fa_elt T0 rfl rfl rfl (by simp; rfl)) rfl rfl ?_
    refine awt_lo rfl (wt_none rfl) (lv_elt_sl T0 rfl rfl rfl rfl) rfl rfl rfl ?_
    refine awt_po rfl (wt_none rfl) (pv_move rfl rfl) rfl rfl ?_
    refine awt_po rfl (wt_none rfl) (pv_ix_t T0 rfl rfl rfl rfl (by omega) ixA) rfl rfl ?_
    refine awt_lo rfl (wt_none rfl) (lv_elt_ag T0 rfl rfl rfl rfl rcA) rfl rfl rfl ?_
    refine awt_po rfl (wt_none rfl) (pv_move rfl rfl) rfl rfl ?_
    refine awt_po rfl (wt_none rfl) (pv_move rfl rfl) rfl rfl ?_
    refine awt_po rfl (wt_none rfl) (pv_mul rfl rfl rfl (by first | assumption | exact wr64 (by omega))) rfl rfl ?_
    refine awt_po rfl (wt_none rfl) (pv_move rfl rfl) rfl rfl ?_
    refine awt_po rfl (wt_none rfl) (pv_add rfl rfl rfl (by first | assumption | exact wr64 (by omega))) rfl rfl ?_
    refine awt_po rfl (wt_none rfl) (pv_add rfl rfl rfl (by first | assumption | exact wr64 (by omega))) rfl rfl ?_
    refine awt_h (hm := []) rfl (wt_none rfl) rcA rfl (st_call T0 (word_p cp' ws (5 * (i : Int) + j + 1) hw hl (by omega) (by omega)) rfl rfl rfl rfl (by first | exact callee_lit | exact callee_v | exact callee_fn | assumption) rcA raA rfl ?_)
    rintro _ rfl
    refine awt_s (md := fun _ => True) rfl (wt_none rfl) (st_call T0 (pick_p ((b.days.getD i default).prices.getD j default) (wordN ws (5 * (i : Int) + j + 1)) hp2.1 hp2.2.1 hp2.2.2 hw2.1 hw2.2) rfl rfl rfl rfl (by first | exact callee_lit | exact callee_v | exact callee_fn | assumption) rcA raA rfl ?_)
    rintro _ rfl
    refine awe_s (md := fun _ => True) rfl (wt_none rfl) (st_bsl T0 rfl rfl rfl rfl rfl rcA rfl rfl rfl rfl (by simp only [List.map_cons, List.map_nil, cellsA]; rfl) ?_)
    intro g56
    refine awe_s (md := fun _ => True) rfl (wt_none rfl) (st_app T0 rfl rfl rfl rfl rfl rfl rfl rfl rfl rcA rcA rfl rfl hn3 (by omega) (fun _ _ => trivial) ?_)
    intro a57 c57 p57
    refine awe_p rfl (wt_none rfl) (pv_assign rfl rfl) rfl rfl ?_
    refine awe_end ?_
    repeat (first | refine awp_region_lit rfl ?_ | (show AWL _ _ _ (⟨_, .move _, _, _, _, _⟩ :: _) _ _ _; refine awl_pw (wt_none rfl) (pv_move rfl rfl) rfl rfl ?_) | (show AWL _ _ _ (⟨_, .assign _, _, _, _, _⟩ :: _) _ _ _; refine awl_pw (wt_none rfl) (pv_assign rfl rfl) rfl rfl ?_) | (show AWL _ _ _ (⟨_, .binOp .add _ _ _ _, _, _, _, _⟩ :: _) _ _ _; refine awl_pw (wt_none rfl) (pv_add rfl rfl rfl (by first | assumption | exact wr64 (by omega))) rfl rfl ?_) | refine awl_nil ?_)
    refine rnd_n _ _ _ ?_ ⟨j + 1, _, _, _, hjt, rfl, ?_, rfl, rfl⟩ ssA rcA
    · omega
    · rw [hr3, show pickRow b ws i (j + 1) = pickRow b ws i j ++ [_] from range_step _ j, List.map_append]; rfl
  have ej : j = b.stocks.toNat := by omega
  refine awp_ghost (ghost_freeze (E := 3) (sz := 1) (n := (pickRow b ws i b.stocks.toNat).length) (rows := r3) (d := 7) (fun q => [.sc (.int .i64 ((pickRow b ws i b.stocks.toNat).getD q 0))]) rcA rfl (by rw [hr3, ej]; simp) ?_) ?_
  · rw [hr3, ej]
    exact intRows_tree _
  repeat (first | refine awp_seq ?_ | refine awp_region_lit rfl ?_ | refine awp_exit ?_ | with_reducible refine then_n ?_ | refine awp_cond_f rfl (by first | rfl | assumption | exact dF (by omega)) ?_ | (show AWL _ _ _ (⟨_, .move _, _, _, _, _⟩ :: _) _ _ _; refine awl_pw (wt_none rfl) (pv_move rfl rfl) rfl rfl ?_) | (show AWL _ _ _ (⟨_, .load _ _, _, _, _, _⟩ :: _) _ _ _; refine awl_lw (wt_none rfl) (lv_cl1 T0 rfl rfl rfl rcA raA) rfl rfl rfl ?_) | (show AWL _ _ _ (⟨_, .fieldAddr _ _ _, _, _, _, _⟩ :: _) _ _ _; refine awl_pw (wt_none rfl) (pv_fa T0 rfl rfl rfl (by simp; rfl)) rfl rfl ?_) | (show AWL _ _ _ (⟨_, .binOp .lss _ _ _ _, _, _, _, _⟩ :: _) _ _ _; refine awl_pw (wt_none rfl) (pv_lss rfl rfl rfl) rfl rfl ?_) | refine awl_nil ?_)
  refine awl_hw (wt_none rfl) (st_bsl T0 rfl rfl rfl rfl rfl rcA rfl rfl rfl rfl (by simp only [List.map_cons, List.map_nil, cellsA]; rfl) ?_)
  intro g61
  skip
  refine awl_hw (wt_none rfl) (st_app T0 rfl rfl rfl rfl rfl rfl rfl rfl rfl rcA rcA rfl rfl hn1 (by omega) (fun _ _ => trivial) ?_)
  intro a62 c62 p62
  repeat (first | refine awp_region_lit rfl ?_ | (show AWL _ _ _ (⟨_, .move _, _, _, _, _⟩ :: _) _ _ _; refine awl_pw (wt_none rfl) (pv_move rfl rfl) rfl rfl ?_) | (show AWL _ _ _ (⟨_, .assign _, _, _, _, _⟩ :: _) _ _ _; refine awl_pw (wt_none rfl) (pv_assign rfl rfl) rfl rfl ?_) | (show AWL _ _ _ (⟨_, .fieldAddr _ _ _, _, _, _, _⟩ :: _) _ _ _; refine awl_pw (wt_none rfl) (pv_fa T0 rfl rfl rfl (by simp; rfl)) rfl rfl ?_) | (show AWL _ _ _ (⟨_, .binOp .add _ _ _ _, _, _, _, _⟩ :: _) _ _ _; refine awl_pw (wt_none rfl) (pv_add rfl rfl rfl (by first | assumption | exact wr64 (by omega))) rfl rfl ?_) | (show AWL _ _ _ (⟨_, .store _ _ _, _, _, _, _⟩ :: _) _ _ _; refine awl_hw (wt_none rfl) (st_store T0 rfl rfl rfl rfl rfl (by first | assumption | (simp only [cellsA]; rfl)) rfl rfl rfl rcA rcA trivial ?_)) | refine awl_nil ?_)
  refine rnd_n _ _ _ ?_ ⟨i + 1, _, _, _, _, _, _, hit, fun _ => p62 (by omega), rfl, ?_, ?_, rfl, rfl⟩ ssA rcA
  · omega
  · rw [hr1, show pickPs b ws (i + 1) = pickPs b ws i ++ [_] from range_step _ i, List.map_append]; rfl
  · rw [hr2, show pickRs b ws (i + 1) = pickRs b ws i ++ [_] from range_step _ i, List.map_append]; rfl
end Go.Proofs.Ytlpknbneilgjkaa.M
