/- Differences and Money, of the program and of the reference: their walks. -/
import Derived.Test.YtilhflfbbfeakaaRd
namespace Go.Proofs.Ytilhflfbbfeakaa
open Go Go.RowKit Go.Tl
set_option linter.unusedVariables false
set_option linter.unusedSimpArgs false
set_option maxRecDepth 100000
set_option maxHeartbeats 4000000
attribute [local irreducible] AWP AWL AOp PV LV AWT AWE
def numF (b : BookD) (i : Nat) : Int := (b.cons.getD i default).num
theorem all_p (cp : Bool) (b : BookD) (hl : b.cons.length ≤ 1000) : PCall Try.prog 26 [bookA cp b] (fun r => r = .t (intsT true (b.cons.map (·.num)))) := by
  refine acall_of_awp T0 Try.func26 rfl rfl rfl ?_
  repeat (first | refine awp_seq ?_ | refine awp_region_lit rfl ?_)
  refine awl_hw (wt_none rfl) (st_box rfl rfl (by first | rfl | assumption) (by first | assumption | (simp only [cellsA]; rfl)) rfl rfl ?_)
  intro g1
  repeat (first | refine awp_seq ?_ | refine awp_block ?_ | refine awp_region_lit rfl ?_ | (show AWL _ _ _ (⟨_, .assign _, _, _, _, _⟩ :: _) _ _ _; refine awl_pw (wt_none rfl) (pv_assign rfl rfl) rfl rfl ?_) | refine awl_nil ?_)
  refine awp_ghost (ghost_nilrow 3 1) ?_
  refine awp_loop (fun m s h => ∃ (k : Nat) (a : Option Addr) (c : Nat) (rows : List (List AV)), k ≤ b.cons.length ∧ m = b.cons.length - k ∧ rows.length = k ∧ rows = ((b.cons.map (·.num)).take k).map intRow ∧
    s = [(1, .v (ptrV g1)), (3, .v (.slice a k c)), (4, intA k)] ∧ h = [.cl g1 24 [intA b.houses, .t (consT cp b.cons)], .rw (.slice a k c) 3 1 rows]) ?_ ⟨0, _, _, _, Nat.zero_le _, rfl, rfl, rfl, rfl, rfl⟩ (by first | ((repeat' (first | exact True.intro | refine ⟨rfl, ?_⟩)); all_goals fail) | fail) (by solve | repeat' constructor)
  rintro m s h ⟨k, a, c, rows, hk, rfl, hn, hrows, rfl, rfl⟩
  by_cases hlt : k < b.cons.length
  · have hlt' : k < (b.cons.map (·.num)).length := by simpa using hlt
    have e0 : (b.cons.map (·.num)).getD k 0 = (b.cons.getD k default).num := by simp [List.getD_eq_getElem?_getD, hlt]
    repeat (first | refine awp_seq ?_ | refine awp_block ?_ | refine awp_region_lit rfl ?_ | refine awp_skip ?_ | refine then_n ?_ | refine awp_cond_t rfl (by first | rfl | assumption | exact dT (by omega)) ?_ | (show AWL _ _ _ (⟨_, .move _, _, _, _, _⟩ :: _) _ _ _; refine awl_pw (wt_none rfl) (pv_move rfl rfl) rfl rfl ?_) | (show AWL _ _ _ (⟨_, .load _ _, _, _, _, _⟩ :: _) _ _ _; refine awl_lw (wt_none rfl) (lv_cl1 T0 rfl rfl rfl (by solve | repeat' constructor) (by first | rfl | assumption)) rfl rfl rfl ?_) | (show AWL _ _ _ (⟨_, .load _ _, _, _, _, _⟩ :: _) _ _ _; refine awl_lw (wt_none rfl) (lv_elt_sc T0 rfl rfl rfl rfl) rfl rfl rfl ?_) | (show AWL _ _ _ (⟨_, .fieldAddr _ _ _, _, _, _, _⟩ :: _) _ _ _; refine awl_pw (wt_none rfl) (pv_fa T0 rfl rfl rfl (by simp; rfl)) rfl rfl ?_) | (show AWL _ _ _ (⟨_, .fieldAddr _ _ _, _, _, _, _⟩ :: _) _ _ _; refine awl_pw (wt_none rfl) (pv_fa_elt T0 rfl rfl rfl (by simp; rfl)) rfl rfl ?_) | (show AWL _ _ _ (⟨_, .indexAddr _ _ _, _, _, _, _⟩ :: _) _ _ _; refine awl_pw (wt_none rfl) (pv_ix_t T0 rfl rfl rfl rfl (by omega) (by first | exact Int.toNat_natCast _ | rfl)) rfl rfl ?_) | (show AWL _ _ _ (⟨_, .binOp .lss _ _ _ _, _, _, _, _⟩ :: _) _ _ _; refine awl_pw (wt_none rfl) (pv_lss rfl rfl rfl) rfl rfl ?_) | (show AWL _ _ _ (⟨_, .call ⟨.builtin .len, _, _⟩, _, _, _, _⟩ :: _) _ _ _; refine awl_pw (wt_none rfl) (pv_len_t T0 rfl rfl rfl) rfl rfl ?_) | refine awl_nil ?_)
    refine awl_hw (wt_none rfl) (st_bsl T0 rfl rfl rfl rfl rfl (by solve | repeat' constructor) rfl rfl rfl rfl (by simp only [List.map_cons, List.map_nil, cellsA]; rfl) ?_)
    intro g19
    skip
    refine awl_hw (wt_none rfl) (st_app T0 rfl rfl rfl rfl rfl rfl rfl rfl rfl (by solve | repeat' constructor) (by solve | repeat' constructor) rfl rfl hn (by omega) (fun _ _ => trivial) ?_)
    intro a20 c20 p20
    repeat (first | refine awp_region_lit rfl ?_ | (show AWL _ _ _ (⟨_, .move _, _, _, _, _⟩ :: _) _ _ _; refine awl_pw (wt_none rfl) (pv_move rfl rfl) rfl rfl ?_) | (show AWL _ _ _ (⟨_, .assign _, _, _, _, _⟩ :: _) _ _ _; refine awl_pw (wt_none rfl) (pv_assign rfl rfl) rfl rfl ?_) | (show AWL _ _ _ (⟨_, .binOp .add _ _ _ _, _, _, _, _⟩ :: _) _ _ _; refine awl_pw (wt_none rfl) (pv_add rfl rfl rfl (by first | assumption | exact wr64 (by omega))) rfl rfl ?_) | refine awl_nil ?_)
    refine rnd_n _ _ _ ?_ ⟨k + 1, _, _, _, hlt, rfl, ?_, ?_, rfl, rfl⟩ (by first | ((repeat' (first | exact True.intro | refine ⟨rfl, ?_⟩)); all_goals fail) | fail) (by solve | repeat' constructor)
    · omega
    · simp; omega
    · rw [hrows, rows_step (d := (0 : Int)) intRow hlt', e0]; rfl
  obtain rfl : k = b.cons.length := by omega
  have e1 : (b.cons.map (·.num)).length = b.cons.length := by simp
  rw [List.take_of_length_le (by omega)] at hrows
  refine awp_ghost (ghost_freeze (E := 3) (sz := 1) (n := (b.cons.map (·.num)).length) (rows := rows) (d := 3) (fun q => [.sc (.int .i64 ((b.cons.map (·.num)).getD q 0))]) (by solve | repeat' constructor) rfl (by rw [hn, e1]) (by rw [hrows]; exact intRows_tree _)) ?_
  repeat (first | refine awp_seq ?_ | refine awp_region_lit rfl ?_ | refine awp_exit ?_ | refine awp_ret ?_ | refine then_n ?_ | refine awp_cond_f rfl (by first | rfl | assumption | exact dF (by omega)) ?_ | (show AWL _ _ _ (⟨_, .move _, _, _, _, _⟩ :: _) _ _ _; refine awl_pw (wt_none rfl) (pv_move rfl rfl) rfl rfl ?_) | (show AWL _ _ _ (⟨_, .assign _, _, _, _, _⟩ :: _) _ _ _; refine awl_pw (wt_none rfl) (pv_assign rfl rfl) rfl rfl ?_) | (show AWL _ _ _ (⟨_, .load _ _, _, _, _, _⟩ :: _) _ _ _; refine awl_lw (wt_none rfl) (lv_cl1 T0 rfl rfl rfl (by solve | repeat' constructor) (by first | rfl | assumption)) rfl rfl rfl ?_) | (show AWL _ _ _ (⟨_, .fieldAddr _ _ _, _, _, _, _⟩ :: _) _ _ _; refine awl_pw (wt_none rfl) (pv_fa T0 rfl rfl rfl (by simp; rfl)) rfl rfl ?_) | (show AWL _ _ _ (⟨_, .binOp .lss _ _ _ _, _, _, _, _⟩ :: _) _ _ _; refine awl_pw (wt_none rfl) (pv_lss rfl rfl rfl) rfl rfl ?_) | (show AWL _ _ _ (⟨_, .call ⟨.builtin .len, _, _⟩, _, _, _, _⟩ :: _) _ _ _; refine awl_pw (wt_none rfl) (pv_len_t T0 rfl rfl rfl) rfl rfl ?_) | refine awl_nil ?_)
  exact body_p (.cons rfl .nil) rfl
end Go.Proofs.Ytilhflfbbfeakaa

