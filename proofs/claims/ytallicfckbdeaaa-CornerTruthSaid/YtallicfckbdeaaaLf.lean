/- Sales are copied: walks of Back (Try.func49), Sales (Try.func51). (lv_elt_agd serves the loads) -/
import Derived.Test.YtallicfckbdeaaaGHj
import Derived.Test.YtallicfckbdeaaaGTy
namespace Go.Proofs.Ytallicfckbdeaaa
open Go Go.RowKit Go.Tl
set_option linter.unusedVariables false
set_option linter.unusedSimpArgs false
set_option maxRecDepth 100000
set_option maxHeartbeats 4000000
theorem salc_step {l : List SalC} {k : Nat} (h : k < l.length) : (l.take (k + 1)).map salcRow = (l.take k).map salcRow ++ [salcRow (l.getD k default)] := rows_step (d := default) salcRow h
attribute [local irreducible] AWP AWL AOp PV LV AWT AWE
section
variable {k cc : Nat} {c : Bool} {l : List SalC} {a : Option Addr} {rows : List (List AV)}
theorem lf_5 (hk : k < l.length) (hl : l.length ≤ 1000) (hn : rows.length = k) {ops : Array Oper} (h : regF Try.f49 5 = some ops) :
    AWP Try.prog Try.f49.ntmps none (.region 5 ops true) (cutQ (fun s h => ∃ a c', s = [(0, .t (salcT c l)), (3, .v (.slice a (k + 1) c')), (4, intA k)] ∧ h = [.rw (.slice a (k + 1) c') 130 3 (rows ++ [salcRow (l.getD k default)])]))
      [(0, .t (salcT c l)), (3, .v (.slice a k cc)), (4, intA k)] [.rw (.slice a k cc) 130 3 rows] := by
  cases h
  unfold salcRow
  refine awp_tree T0 [(0, 0), (1, 0), (2, 0), (3, 0), (4, 0), (5, 1), (6, 0), (7, 0), (8, 0), (9, 0), (10, 1), (11, 0), (12, 0), (13, 0), (14, 0), (15, 1), (16, 0), (17, 3), (18, 3), (19, 0)] (.op 0 0 (.op 1 0 (.op 2 0 (.op 3 0 (.op 4 0 (.op 5 1 (.op 6 0 (.op 7 0 (.op 8 0 (.op 9 0 (.op 10 1 (.op 11 0 (.op 12 0 (.op 13 0 (.op 14 0 (.op 15 1 (.op 16 0 (.op 17 3 (.op 18 3 (.op 19 0 .stop)))))))))))))))))))) _ rfl (by kernel_rfl) (SubH.refl _) ?_
  refine awt_po rfl (wt_none rfl) (pv_move rfl rfl) rfl rfl ?_
  refine awt_po rfl (wt_none rfl) (pv_move rfl rfl) rfl rfl ?_
  refine awt_po rfl (wt_none rfl) (pv_move rfl rfl) rfl rfl ?_
  refine awt_po rfl (wt_none rfl) (pv_ix_t T0 rfl rfl rfl rfl (by omega) ixA) rfl rfl ?_
  refine awt_po rfl (wt_none rfl) (pv_fa_elt T0 rfl rfl rfl (by simp; rfl)) rfl rfl ?_
  refine awt_lo rfl (wt_none rfl) (lv_elt_sc T0 rfl rfl rfl rfl) rfl rfl rfl ?_
  refine awt_po rfl (wt_none rfl) (pv_move rfl rfl) rfl rfl ?_
  refine awt_po rfl (wt_none rfl) (pv_move rfl rfl) rfl rfl ?_
  refine awt_po rfl (wt_none rfl) (pv_ix_t T0 rfl rfl rfl rfl (by omega) ixA) rfl rfl ?_
  refine awt_po rfl (wt_none rfl) (pv_fa_elt T0 rfl rfl rfl (by simp; rfl)) rfl rfl ?_
  refine awt_lo rfl (wt_none rfl) (lv_elt_sc T0 rfl rfl rfl rfl) rfl rfl rfl ?_
  refine awt_po rfl (wt_none rfl) (pv_move rfl rfl) rfl rfl ?_
  refine awt_po rfl (wt_none rfl) (pv_move rfl rfl) rfl rfl ?_
  refine awt_po rfl (wt_none rfl) (pv_ix_t T0 rfl rfl rfl rfl (by omega) ixA) rfl rfl ?_
  refine awt_po rfl (wt_none rfl) (pv_fa_elt T0 rfl rfl rfl (by simp; rfl)) rfl rfl ?_
  refine awt_lo rfl (wt_none rfl) (lv_elt_sc T0 rfl rfl rfl rfl) rfl rfl rfl ?_
  refine awt_po rfl (wt_none rfl) (pv_build T0 rfl rfl rfl scA (by first | ((repeat' (first | exact BParts.nil | apply BParts.cons | rfl)); all_goals fail) | fail) (by first | ((repeat' (first | exact FillA.nil | exact Sp.done | apply FillA.cons | apply Sp.put | apply Sp.skip | (simp only [cellsA]; rfl) | rfl)); all_goals fail) | fail)) rfl rfl ?_
  refine awt_s (md := fun _ => True) rfl (wt_none rfl) (st_bsl T0 rfl rfl rfl rfl rfl rcA rfl rfl rfl rfl (by simp only [List.map_cons, List.map_nil, cellsA]; rfl) ?_)
  intro g28
  refine awe_s (md := fun _ => True) rfl (wt_none rfl) (st_app T0 rfl rfl rfl rfl rfl rfl rfl rfl rfl rcA rcA rfl rfl hn (by omega) (fun _ _ => trivial) ?_)
  intro a29 c29 p29
  refine awe_p rfl (wt_none rfl) (pv_assign rfl rfl) rfl rfl ?_
  refine awe_end ?_
  exact cut_n ⟨_, _, rfl, rfl⟩ ssA rcA
theorem lg_5 (hk : k < l.length) (hl : l.length ≤ 1000) (hn : rows.length = k) {ops : Array Oper} (h : regF Try.f51 5 = some ops) :
    AWP Try.prog Try.f51.ntmps none (.region 5 ops true) (cutQ (fun s h => ∃ a c', s = [(0, .t (salcT c l)), (3, .v (.slice a (k + 1) c')), (4, intA k)] ∧ h = [.rw (.slice a (k + 1) c') 71 3 (rows ++ [salcRow (l.getD k default)])]))
      [(0, .t (salcT c l)), (3, .v (.slice a k cc)), (4, intA k)] [.rw (.slice a k cc) 71 3 rows] := by
  cases h
  unfold salcRow
  refine awp_tree T0 [(0, 0), (1, 0), (2, 0), (3, 0), (4, 0), (5, 1), (6, 0), (7, 0), (8, 0), (9, 0), (10, 1), (11, 0), (12, 0), (13, 0), (14, 0), (15, 1), (16, 0), (17, 3), (18, 3), (19, 0)] (.op 0 0 (.op 1 0 (.op 2 0 (.op 3 0 (.op 4 0 (.op 5 1 (.op 6 0 (.op 7 0 (.op 8 0 (.op 9 0 (.op 10 1 (.op 11 0 (.op 12 0 (.op 13 0 (.op 14 0 (.op 15 1 (.op 16 0 (.op 17 3 (.op 18 3 (.op 19 0 .stop)))))))))))))))))))) _ rfl (by kernel_rfl) (SubH.refl _) ?_
  refine awt_po rfl (wt_none rfl) (pv_move rfl rfl) rfl rfl ?_
  refine awt_po rfl (wt_none rfl) (pv_move rfl rfl) rfl rfl ?_
  refine awt_po rfl (wt_none rfl) (pv_move rfl rfl) rfl rfl ?_
  refine awt_po rfl (wt_none rfl) (pv_ix_t T0 rfl rfl rfl rfl (by omega) ixA) rfl rfl ?_
  refine awt_po rfl (wt_none rfl) (pv_fa_elt T0 rfl rfl rfl (by simp; rfl)) rfl rfl ?_
  refine awt_lo rfl (wt_none rfl) (lv_elt_sc T0 rfl rfl rfl rfl) rfl rfl rfl ?_
  refine awt_po rfl (wt_none rfl) (pv_move rfl rfl) rfl rfl ?_
  refine awt_po rfl (wt_none rfl) (pv_move rfl rfl) rfl rfl ?_
  refine awt_po rfl (wt_none rfl) (pv_ix_t T0 rfl rfl rfl rfl (by omega) ixA) rfl rfl ?_
  refine awt_po rfl (wt_none rfl) (pv_fa_elt T0 rfl rfl rfl (by simp; rfl)) rfl rfl ?_
  refine awt_lo rfl (wt_none rfl) (lv_elt_sc T0 rfl rfl rfl rfl) rfl rfl rfl ?_
  refine awt_po rfl (wt_none rfl) (pv_move rfl rfl) rfl rfl ?_
  refine awt_po rfl (wt_none rfl) (pv_move rfl rfl) rfl rfl ?_
  refine awt_po rfl (wt_none rfl) (pv_ix_t T0 rfl rfl rfl rfl (by omega) ixA) rfl rfl ?_
  refine awt_po rfl (wt_none rfl) (pv_fa_elt T0 rfl rfl rfl (by simp; rfl)) rfl rfl ?_
  refine awt_lo rfl (wt_none rfl) (lv_elt_sc T0 rfl rfl rfl rfl) rfl rfl rfl ?_
  refine awt_po rfl (wt_none rfl) (pv_build T0 rfl rfl rfl scA (by first | ((repeat' (first | exact BParts.nil | apply BParts.cons | rfl)); all_goals fail) | fail) (by first | ((repeat' (first | exact FillA.nil | exact Sp.done | apply FillA.cons | apply Sp.put | apply Sp.skip | (simp only [cellsA]; rfl) | rfl)); all_goals fail) | fail)) rfl rfl ?_
  refine awt_s (md := fun _ => True) rfl (wt_none rfl) (st_bsl T0 rfl rfl rfl rfl rfl rcA rfl rfl rfl rfl (by simp only [List.map_cons, List.map_nil, cellsA]; rfl) ?_)
  intro g28
  refine awe_s (md := fun _ => True) rfl (wt_none rfl) (st_app T0 rfl rfl rfl rfl rfl rfl rfl rfl rfl rcA rcA rfl rfl hn (by omega) (fun _ _ => trivial) ?_)
  intro a29 c29 p29
  refine awe_p rfl (wt_none rfl) (pv_assign rfl rfl) rfl rfl ?_
  refine awe_end ?_
  exact cut_n ⟨_, _, rfl, rfl⟩ ssA rcA
end
theorem back_p (c : Bool) (l : List SalC) (hl : l.length ≤ 1000) : PCall Try.prog 49 [.t (salcT c l)] (fun r => r = .t (salcT true l)) := by
  refine acall_of_awp T0 Try.func49 rfl rfl rfl ?_
  repeat (first | refine awp_seq ?_ | refine awp_block ?_ | refine awp_region_lit rfl ?_ | (show AWL _ _ _ (⟨_, .assign _, _, _, _, _⟩ :: _) _ _ _; refine awl_pw (wt_none rfl) (pv_assign rfl rfl) rfl rfl ?_) | refine awl_nil ?_)
  refine awp_ghost (ghost_nilrow 130 3) ?_
  refine awp_loop (fun m s h => ∃ (k : Nat) (a : Option Addr) (cc : Nat) (rows : List (List AV)), k ≤ l.length ∧ m = l.length - k ∧ rows.length = k ∧ rows = (l.take k).map salcRow ∧ s = [(0, .t (salcT c l)), (3, .v (.slice a k cc)), (4, intA k)] ∧ h = [.rw (.slice a k cc) 130 3 rows]) ?_ ⟨0, none, 0, [], Nat.zero_le _, rfl, rfl, rfl, rfl, rfl⟩ ssA rcA
  rintro m s h ⟨k, a, cc, rows, hk, rfl, hn, hrows, rfl, rfl⟩
  by_cases hlt : k < l.length
  · repeat (first | refine awp_seq ?_ | refine awp_block ?_ | refine awp_region_lit rfl ?_ | refine awp_skip ?_ | refine then_n ?_ | refine awp_cond_t rfl (by first | rfl | assumption | exact dT (by omega)) ?_ | (show AWL _ _ _ (⟨_, .move _, _, _, _, _⟩ :: _) _ _ _; refine awl_pw (wt_none rfl) (pv_move rfl rfl) rfl rfl ?_) | (show AWL _ _ _ (⟨_, .binOp .lss _ _ _ _, _, _, _, _⟩ :: _) _ _ _; refine awl_pw (wt_none rfl) (pv_lss rfl rfl rfl) rfl rfl ?_) | (show AWL _ _ _ (⟨_, .call ⟨.builtin .len, _, _⟩, _, _, _, _⟩ :: _) _ _ _; refine awl_pw (wt_none rfl) (pv_len_t T0 rfl rfl rfl) rfl rfl ?_) | refine awl_nil ?_)
    refine awp_cutB _ (awp_weak ssA rcA (lf_5 (c := c) (l := l) (a := a) (k := k) (cc := cc) (rows := rows) hlt hl hn rfl)) ?_
    rintro s h ⟨a2, c2, rfl, rfl⟩
    repeat (first | refine awp_region_lit rfl ?_ | (show AWL _ _ _ (⟨_, .move _, _, _, _, _⟩ :: _) _ _ _; refine awl_pw (wt_none rfl) (pv_move rfl rfl) rfl rfl ?_) | (show AWL _ _ _ (⟨_, .assign _, _, _, _, _⟩ :: _) _ _ _; refine awl_pw (wt_none rfl) (pv_assign rfl rfl) rfl rfl ?_) | (show AWL _ _ _ (⟨_, .binOp .add _ _ _ _, _, _, _, _⟩ :: _) _ _ _; refine awl_pw (wt_none rfl) (pv_add rfl rfl rfl (by first | assumption | exact wr64 (by omega))) rfl rfl ?_) | refine awl_nil ?_)
    refine rnd_n _ _ _ ?_ ⟨k + 1, a2, c2, _, hlt, rfl, ?_, ?_, rfl, rfl⟩ ssA rcA
    · omega
    · simp; omega
    · rw [hrows, salc_step hlt]
  obtain rfl : k = l.length := by omega
  rw [List.take_length] at hrows
  repeat (first | refine awp_seq ?_ | refine awp_region_lit rfl ?_ | refine awp_exit ?_ | refine awp_ret ?_ | refine then_n ?_ | refine awp_cond_f rfl (by first | rfl | assumption | exact dF (by omega)) ?_ | (show AWL _ _ _ (⟨_, .move _, _, _, _, _⟩ :: _) _ _ _; refine awl_pw (wt_none rfl) (pv_move rfl rfl) rfl rfl ?_) | (show AWL _ _ _ (⟨_, .assign _, _, _, _, _⟩ :: _) _ _ _; refine awl_pw (wt_none rfl) (pv_assign rfl rfl) rfl rfl ?_) | (show AWL _ _ _ (⟨_, .binOp .lss _ _ _ _, _, _, _, _⟩ :: _) _ _ _; refine awl_pw (wt_none rfl) (pv_lss rfl rfl rfl) rfl rfl ?_) | (show AWL _ _ _ (⟨_, .call ⟨.builtin .len, _, _⟩, _, _, _, _⟩ :: _) _ _ _; refine awl_pw (wt_none rfl) (pv_len_t T0 rfl rfl rfl) rfl rfl ?_) | refine awl_nil ?_)
  refine bodyQ_ghost (ghost_freeze (E := 130) (sz := 3) (n := l.length) (rows := rows) (d := 2) (fun q => salcL (l.getD q default)) rcA rfl hn (by rw [hrows]; exact rows_tree l salcRow salcL (fun _ => rfl))) ?_
  exact body_p (.cons rfl .nil) rfl
theorem sales_p (c : Bool) (l : List SalC) (hl : l.length ≤ 1000) : PCall Try.prog 51 [.t (salcT c l)] (fun r => r = .t (salcT true l)) := by
  refine acall_of_awp T0 Try.func51 rfl rfl rfl ?_
  repeat (first | refine awp_seq ?_ | refine awp_block ?_ | refine awp_region_lit rfl ?_ | (show AWL _ _ _ (⟨_, .assign _, _, _, _, _⟩ :: _) _ _ _; refine awl_pw (wt_none rfl) (pv_assign rfl rfl) rfl rfl ?_) | refine awl_nil ?_)
  refine awp_ghost (ghost_nilrow 71 3) ?_
  refine awp_loop (fun m s h => ∃ (k : Nat) (a : Option Addr) (cc : Nat) (rows : List (List AV)), k ≤ l.length ∧ m = l.length - k ∧ rows.length = k ∧ rows = (l.take k).map salcRow ∧ s = [(0, .t (salcT c l)), (3, .v (.slice a k cc)), (4, intA k)] ∧ h = [.rw (.slice a k cc) 71 3 rows]) ?_ ⟨0, none, 0, [], Nat.zero_le _, rfl, rfl, rfl, rfl, rfl⟩ ssA rcA
  rintro m s h ⟨k, a, cc, rows, hk, rfl, hn, hrows, rfl, rfl⟩
  by_cases hlt : k < l.length
  · repeat (first | refine awp_seq ?_ | refine awp_block ?_ | refine awp_region_lit rfl ?_ | refine awp_skip ?_ | refine then_n ?_ | refine awp_cond_t rfl (by first | rfl | assumption | exact dT (by omega)) ?_ | (show AWL _ _ _ (⟨_, .move _, _, _, _, _⟩ :: _) _ _ _; refine awl_pw (wt_none rfl) (pv_move rfl rfl) rfl rfl ?_) | (show AWL _ _ _ (⟨_, .binOp .lss _ _ _ _, _, _, _, _⟩ :: _) _ _ _; refine awl_pw (wt_none rfl) (pv_lss rfl rfl rfl) rfl rfl ?_) | (show AWL _ _ _ (⟨_, .call ⟨.builtin .len, _, _⟩, _, _, _, _⟩ :: _) _ _ _; refine awl_pw (wt_none rfl) (pv_len_t T0 rfl rfl rfl) rfl rfl ?_) | refine awl_nil ?_)
    refine awp_cutB _ (awp_weak ssA rcA (lg_5 (c := c) (l := l) (a := a) (k := k) (cc := cc) (rows := rows) hlt hl hn rfl)) ?_
    rintro s h ⟨a2, c2, rfl, rfl⟩
    repeat (first | refine awp_region_lit rfl ?_ | (show AWL _ _ _ (⟨_, .move _, _, _, _, _⟩ :: _) _ _ _; refine awl_pw (wt_none rfl) (pv_move rfl rfl) rfl rfl ?_) | (show AWL _ _ _ (⟨_, .assign _, _, _, _, _⟩ :: _) _ _ _; refine awl_pw (wt_none rfl) (pv_assign rfl rfl) rfl rfl ?_) | (show AWL _ _ _ (⟨_, .binOp .add _ _ _ _, _, _, _, _⟩ :: _) _ _ _; refine awl_pw (wt_none rfl) (pv_add rfl rfl rfl (by first | assumption | exact wr64 (by omega))) rfl rfl ?_) | refine awl_nil ?_)
    refine rnd_n _ _ _ ?_ ⟨k + 1, a2, c2, _, hlt, rfl, ?_, ?_, rfl, rfl⟩ ssA rcA
    · omega
    · simp; omega
    · rw [hrows, salc_step hlt]
  obtain rfl : k = l.length := by omega
  rw [List.take_length] at hrows
  repeat (first | refine awp_seq ?_ | refine awp_region_lit rfl ?_ | refine awp_exit ?_ | refine awp_ret ?_ | refine then_n ?_ | refine awp_cond_f rfl (by first | rfl | assumption | exact dF (by omega)) ?_ | (show AWL _ _ _ (⟨_, .move _, _, _, _, _⟩ :: _) _ _ _; refine awl_pw (wt_none rfl) (pv_move rfl rfl) rfl rfl ?_) | (show AWL _ _ _ (⟨_, .assign _, _, _, _, _⟩ :: _) _ _ _; refine awl_pw (wt_none rfl) (pv_assign rfl rfl) rfl rfl ?_) | (show AWL _ _ _ (⟨_, .binOp .lss _ _ _ _, _, _, _, _⟩ :: _) _ _ _; refine awl_pw (wt_none rfl) (pv_lss rfl rfl rfl) rfl rfl ?_) | (show AWL _ _ _ (⟨_, .call ⟨.builtin .len, _, _⟩, _, _, _, _⟩ :: _) _ _ _; refine awl_pw (wt_none rfl) (pv_len_t T0 rfl rfl rfl) rfl rfl ?_) | refine awl_nil ?_)
  refine bodyQ_ghost (ghost_freeze (E := 71) (sz := 3) (n := l.length) (rows := rows) (d := 2) (fun q => salcL (l.getD q default)) rcA rfl hn (by rw [hrows]; exact rows_tree l salcRow salcL (fun _ => rfl))) ?_
  exact body_p (.cons rfl .nil) rfl
end Go.Proofs.Ytallicfckbdeaaa
