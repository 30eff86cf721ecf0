/- Joined texts: Ma, Mb. -/
import Derived.Test.YtlpknbneilgjkaaMGCo
import Derived.Test.YtlpknbneilgjkaaTt
import Derived.Test.YtlpknbneilgjkaaGOb
import Derived.Test.YtlpknbneilgjkaaGPa
import Derived.Test.YtlpknbneilgjkaaGTs
import Derived.Test.YtlpknbneilgjkaaGTy
section
namespace Go.Proofs.Ytlpknbneilgjkaa.M
open Go Go.RowKit Go.Tl
set_option linter.unusedVariables false
set_option linter.unusedSimpArgs false
set_option maxHeartbeats 2000000
attribute [local irreducible] AWP AWL AOp PV LV AWT AWE
theorem list_o (cp : Bool) (xs : List Int) (hl : xs.length ≤ 1000) : ACall Try.prog 49 [.t (intsT cp xs)] [] (fun r h' => ∃ v, r = .v v ∧ h' = [.rw v 3 1 (xs.map intRow)]) := by
  refine acall_of_awp T0 Try.func49 rfl rfl rfl ?_
  repeat (first | refine awp_seq ?_ | refine awp_region_lit rfl ?_ | (show AWL _ _ _ (⟨_, .assign _, _, _, _, _⟩ :: _) _ _ _; refine awl_pw (wt_none rfl) (pv_assign rfl rfl) rfl rfl ?_) | refine awl_nil ?_)
  refine awl_hw (wt_none rfl) (st_bsl T0 rfl rfl rfl rfl rfl (by solve | repeat' constructor) rfl rfl rfl rfl (by simp only [List.map_cons, List.map_nil, cellsA]; rfl) ?_)
  intro g
  repeat (first | (show AWL _ _ _ (⟨_, .move _, _, _, _, _⟩ :: _) _ _ _; refine awl_pw (wt_none rfl) (pv_move rfl rfl) rfl rfl ?_))
  refine awl_hw (wt_none rfl) (st_appt T0 rfl rfl rfl rfl rfl rfl rfl rfl rfl (by solve | repeat' constructor) (by intro k hk u hu; simp at hu; subst hu; rfl) (by (try simp only [List.length_nil, List.length_map, List.length_append, List.length_cons]); rfl) (by first | omega | (simp; omega)) (fun _ _ => trivial) rfl ?_)
  intro a c p
  repeat (first | refine awp_ret ?_ | (show AWL _ _ _ (⟨_, .assign _, _, _, _, _⟩ :: _) _ _ _; refine awl_pw (wt_none rfl) (pv_assign rfl rfl) rfl rfl ?_) | refine awl_nil ?_)
  refine body_r (.cons rfl .nil) (SubH.refl _) ⟨_, rfl, ?_⟩
  simp only [List.nil_append]
  rw [intRows_range]
theorem list_p (cp : Bool) (xs : List Int) (hl : xs.length ≤ 1000) : PCall Try.prog 49 [.t (intsT cp xs)] (fun r => r = .t (intsT true xs)) :=
  acall_freeze (list_o cp xs hl) (by simp) (intRows_tree xs)
theorem clone_p (cp : Bool) (xs : List Int) (hl : xs.length ≤ 1000) : PCall Try.prog 66 [.t (intsT cp xs)] (fun r => r = .t (intsT false xs)) := by
  refine acall_of_awp T0 Try.func66 rfl rfl rfl ?_
  repeat (first | refine awp_seq ?_ | refine awp_region_lit rfl ?_ | (show AWL _ _ _ (⟨_, .move _, _, _, _, _⟩ :: _) _ _ _; refine awl_pw (wt_none rfl) (pv_move rfl rfl) rfl rfl ?_) | (show AWL _ _ _ (⟨_, .assign _, _, _, _, _⟩ :: _) _ _ _; refine awl_pw (wt_none rfl) (pv_assign rfl rfl) rfl rfl ?_) | refine awl_nil ?_)
  refine awl_hw (wt_none rfl) (aop_isnil T0 rfl rfl rfl rfl rfl ?_)
  intro b hb
  repeat (first | with_reducible refine then_n ?_ | refine awl_nil ?_)
  cases b
  · repeat (first | refine awp_seq ?_ | refine awp_region_lit rfl ?_ | refine awp_skip ?_ | refine awp_cond_f rfl (by first | rfl | assumption | exact dF (by omega)) ?_)
    refine awl_hw (wt_none rfl) (st_bsl T0 rfl rfl rfl rfl rfl (by solve | repeat' constructor) rfl rfl rfl rfl (by simp only [List.map_cons, List.map_nil, cellsA]; rfl) ?_)
    intro g
    repeat (first | (show AWL _ _ _ (⟨_, .move _, _, _, _, _⟩ :: _) _ _ _; refine awl_pw (wt_none rfl) (pv_move rfl rfl) rfl rfl ?_))
    refine awl_hw (wt_none rfl) (st_appt T0 rfl rfl rfl rfl rfl rfl rfl rfl rfl (by solve | repeat' constructor) (by intro k hk u hu; simp at hu; subst hu; rfl) (by (try simp only [List.length_nil, List.length_map, List.length_append, List.length_cons]); rfl) (by first | omega | (simp; omega)) (fun _ _ => trivial) rfl ?_)
    intro a c p
    repeat (first | refine awp_ret ?_ | (show AWL _ _ _ (⟨_, .assign _, _, _, _, _⟩ :: _) _ _ _; refine awl_pw (wt_none rfl) (pv_assign rfl rfl) rfl rfl ?_) | refine awl_nil ?_)
    refine bodyQ_ghost (ghost_freeze (E := 3) (sz := 1) (n := xs.length) (d := 2) (fun k => [.sc (.int .i64 (xs.getD k 0))]) (by solve | repeat' constructor) rfl (by simp) ?_) ?_
    · intro k hk
      rw [List.nil_append, intRows_range]
      exact intRows_tree xs k hk
    refine bodyQ_ghost (ghost_to (d := 2) rfl (t' := intsT false xs) (.sl (fun h => by cases h) (fun k hk => ⟨rfl, fun j x x' h1 h2 => ?_⟩))) ?_
    · rw [h1] at h2; cases h2; exact .refl _
    exact body_p (.cons rfl .nil) rfl
  · have h0 : xs.length = 0 := by rcases Nat.eq_zero_or_pos xs.length with h | h; exact h; have := hb h; cases this
    obtain rfl := List.length_eq_zero_iff.1 h0
    repeat (first | refine awp_seq ?_ | refine awp_region_lit rfl ?_ | refine awp_ret ?_ | with_reducible refine then_r ?_ | refine awp_cond_t rfl (by first | rfl | assumption | exact dT (by omega)) ?_ | (show AWL _ _ _ (⟨_, .assign _, _, _, _, _⟩ :: _) _ _ _; refine awl_pw (wt_none rfl) (pv_assign rfl rfl) rfl rfl ?_) | refine awl_nil ?_)
    refine bodyQ_ghost (ghost_none (d := 2) (t := intsT false []) rfl (fun w S => none_rel)) ?_
    exact body_p (.cons rfl .nil) rfl
end Go.Proofs.Ytlpknbneilgjkaa.M
end
section
namespace Go.Proofs.Ytlpknbneilgjkaa.M
open Go Go.RowKit Go.Tl
set_option linter.unusedVariables false
set_option linter.unusedSimpArgs false
set_option maxHeartbeats 2000000
attribute [local irreducible] AWP AWL AOp PV LV AWT AWE
theorem truth_p0 (cp cp' : Bool) (t : TruthD) (h1 : t.prices.length ≤ 1000) (h2 : t.rates.length ≤ 1000) (h3 : ∀ k, k < t.prices.length → (t.prices.getD k []).length ≤ 1000) :
    PCall Try.prog 17 [.ag [.t (rowsT cp t.prices), .t (intsT cp' t.rates)]] (fun r => r = .ag [.t (.sl true 1 t.prices.length (fun k => [intsT true (t.prices.getD k [])])), .t (intsT true t.rates)]) := by
  refine acall_of_awp T0 Try.func17 rfl rfl rfl ?_
  repeat (first | refine awp_seq ?_ | refine awp_region_lit rfl ?_)
  refine awl_hw (wt_none rfl) (st_box rfl rfl rfl (by simp only [cellsA]; rfl) rfl rfl ?_)
  intro g1
  skip
  refine awl_hw (wt_none rfl) (st_alloc T0 rfl rfl rfl rfl (by simp only [Value.cells, List.toList_toArray, List.map_cons, List.map_nil]; rfl) ?_)
  intro g2
  repeat (first | refine awp_seq ?_ | refine awp_region_lit rfl ?_ | (show AWL _ _ _ (⟨_, .load _ _, _, _, _, _⟩ :: _) _ _ _; refine awl_lw (wt_none rfl) (lv_cl1 T0 rfl rfl rfl (by solve | repeat' constructor) (by first | rfl | assumption)) rfl rfl rfl ?_) | (show AWL _ _ _ (⟨_, .fieldAddr _ _ _, _, _, _, _⟩ :: _) _ _ _; refine awl_pw (wt_none rfl) (pv_fa T0 rfl rfl rfl (by simp; rfl)) rfl rfl ?_) | refine awl_nil ?_)
  refine awl_hw (wt_none rfl) (st_call T0 (list_p cp' t.rates h2) rfl rfl rfl rfl (by first | exact callee_lit | exact callee_v | exact callee_fn) (by solve | repeat' constructor) rfl rfl ?_)
  rintro _ rfl
  repeat (first | (show AWL _ _ _ (⟨_, .build _ _, _, _, _, _⟩ :: _) _ _ _; refine awl_pw (wt_none rfl) (pv_build T0 rfl rfl rfl (by simp only [Value.cells, List.toList_toArray, List.map_cons, List.map_nil]; rfl) (by first | ((repeat' (first | exact BParts.nil | apply BParts.cons | rfl)); all_goals fail) | fail) (by first | ((repeat' (first | exact FillA.nil | exact Sp.done | apply FillA.cons | apply Sp.put | apply Sp.skip | (simp only [cellsA]; rfl) | rfl)); all_goals fail) | fail)) rfl rfl ?_))
  refine awl_hw (wt_none rfl) (st_alloc T0 rfl rfl rfl rfl (by simp only [Value.cells, List.toList_toArray, List.map_cons, List.map_nil]; rfl) ?_)
  intro g3
  repeat (first | refine awp_seq ?_ | refine awp_block ?_ | refine awp_region_lit rfl ?_ | (show AWL _ _ _ (⟨_, .assign _, _, _, _, _⟩ :: _) _ _ _; refine awl_pw (wt_none rfl) (pv_assign rfl rfl) rfl rfl ?_) | (show AWL _ _ _ (⟨_, .store _ _ _, _, _, _, _⟩ :: _) _ _ _; refine awl_hw (wt_none rfl) (st_store T0 rfl rfl rfl rfl rfl (by simp only [cellsA]; rfl) rfl rfl rfl (by solve | repeat' constructor) (by solve | repeat' constructor) trivial ?_)) | refine awl_nil ?_)
  refine awp_ghost (ghost_nilrow 29 1) ?_
  refine awp_loop (fun m s h => ∃ (k : Nat) (a : Option Addr) (c : Nat) (rows : List (List AV)), k ≤ t.prices.length ∧ m = t.prices.length - k ∧ rows = (t.prices.take k).map lstRow ∧ s = [(1, .v (.pointer (some ⟨g1, 0, none⟩))), (2, .v (.pointer (some ⟨g2, 0, none⟩))), (3, .v (.pointer (some ⟨g3, 0, none⟩))), (4, intA k)] ∧
    h = [.cl g1 31 [.t (rowsT cp t.prices), .t (intsT cp' t.rates)], .cl g2 71 [noneA, noneA], .cl g3 71 [.v (.slice a k c), .t (intsT true t.rates)], .rw (.slice a k c) 29 1 rows]) ?_ ⟨0, _, _, _, Nat.zero_le _, rfl, rfl, rfl, rfl⟩ (by first | ((repeat' (first | exact True.intro | refine ⟨rfl, ?_⟩)); all_goals fail) | fail) (by solve | repeat' constructor)
  rintro m s h ⟨k, a, c, rows, hk, rfl, hrows, rfl, rfl⟩
  by_cases hlt : k < t.prices.length
  · have hl := h3 k hlt
    have hn : rows.length = k := by rw [hrows]; simp; omega
    repeat (first | refine awp_seq ?_ | refine awp_block ?_ | refine awp_region_lit rfl ?_ | refine awp_skip ?_ | with_reducible refine then_n ?_ | refine awp_cond_t rfl (by first | rfl | assumption | exact dT (by omega)) ?_ | (show AWL _ _ _ (⟨_, .move _, _, _, _, _⟩ :: _) _ _ _; refine awl_pw (wt_none rfl) (pv_move rfl rfl) rfl rfl ?_) | (show AWL _ _ _ (⟨_, .load _ _, _, _, _, _⟩ :: _) _ _ _; refine awl_lw (wt_none rfl) (lv_cl1 T0 rfl rfl rfl (by solve | repeat' constructor) (by first | rfl | assumption)) rfl rfl rfl ?_) | (show AWL _ _ _ (⟨_, .fieldAddr _ _ _, _, _, _, _⟩ :: _) _ _ _; refine awl_pw (wt_none rfl) (pv_fa T0 rfl rfl rfl (by simp; rfl)) rfl rfl ?_) | (show AWL _ _ _ (⟨_, .binOp .lss _ _ _ _, _, _, _, _⟩ :: _) _ _ _; refine awl_pw (wt_none rfl) (pv_lss rfl rfl rfl) rfl rfl ?_) | (show AWL _ _ _ (⟨_, .call ⟨.builtin .len, _, _⟩, _, _, _, _⟩ :: _) _ _ _; refine awl_pw (wt_none rfl) (pv_len_t T0 rfl rfl rfl) rfl rfl ?_) | refine awl_nil ?_)
    refine awp_tree T0 [(0, 0), (1, 1), (2, 0), (3, 1), (4, 0), (5, 0), (6, 1), (7, 2), (8, 2), (9, 3), (10, 0), (11, 3)] (.op 0 0 (.op 1 1 (.op 2 0 (.op 3 1 (.op 4 0 (.op 5 0 (.op 6 1 (.op 7 2 (.op 8 2 (.op 9 3 (.op 10 0 (.op 11 3 .stop)))))))))))) _ rfl (by kernel_rfl) (SubH.refl _) ?_
    refine awt_po rfl (wt_none rfl) (pv_fa T0 rfl rfl rfl (by simp; rfl)) rfl rfl ?_
    refine awt_lo rfl (wt_none rfl) (lv_cl1 T0 rfl rfl rfl (by solve | repeat' constructor) (by first | rfl | assumption)) rfl rfl rfl ?_
    refine awt_po rfl (wt_none rfl) (pv_fa T0 rfl rfl rfl (by simp; rfl)) rfl rfl ?_
    refine awt_lo rfl (wt_none rfl) (lv_cl1 T0 rfl rfl rfl (by solve | repeat' constructor) (by first | rfl | assumption)) rfl rfl rfl ?_
    refine awt_po rfl (wt_none rfl) (pv_move rfl rfl) rfl rfl ?_
    refine awt_po rfl (wt_none rfl) (pv_ix_t T0 rfl rfl rfl rfl (by omega) (by first | exact Int.toNat_natCast _ | rfl)) rfl rfl ?_
    refine awt_lo rfl (wt_none rfl) (lv_elt_sl T0 rfl rfl rfl rfl) rfl rfl rfl ?_
    refine awt_h (hm := []) rfl (wt_none rfl) (by solve | repeat' constructor) rfl (st_call T0 (list_p false (t.prices.getD k []) hl) rfl rfl rfl rfl (by first | exact callee_lit | exact callee_v | exact callee_fn) (by solve | repeat' constructor) rfl rfl ?_)
    rintro _ rfl
    refine awt_h (hm := []) rfl (wt_none rfl) (by solve | repeat' constructor) rfl (st_bsl T0 rfl rfl rfl rfl rfl (by solve | repeat' constructor) rfl rfl rfl rfl (by simp only [List.map_cons, List.map_nil, cellsA]; rfl) ?_)
    intro g24
    refine awt_s (md := fun _ => True) rfl (wt_none rfl) (st_app T0 rfl rfl rfl rfl rfl rfl rfl rfl rfl (by solve | repeat' constructor) (by solve | repeat' constructor) rfl rfl hn (by omega) (fun _ _ => trivial) ?_)
    intro a25 c25 p25
    first
      | refine awe_p rfl (wt_none rfl) (pv_fa T0 rfl rfl rfl (by simp; rfl)) rfl rfl ?_
      | refine awe_p rfl (wt_none rfl) (pv_fa_elt T0 rfl rfl rfl (by simp; rfl)) rfl rfl ?_
      | refine awe_p rfl (wt_none rfl) (pv_fa_rp T0 rfl rfl rfl (by simp; rfl)) rfl rfl ?_
    refine awe_s (md := fun _ => True) rfl (wt_none rfl) (st_store T0 rfl rfl rfl rfl rfl (by simp only [cellsA]; rfl) rfl rfl rfl (by solve | repeat' constructor) (by solve | repeat' constructor) trivial ?_)
    refine awe_end ?_
    repeat (first | refine awp_region_lit rfl ?_ | (show AWL _ _ _ (⟨_, .move _, _, _, _, _⟩ :: _) _ _ _; refine awl_pw (wt_none rfl) (pv_move rfl rfl) rfl rfl ?_) | (show AWL _ _ _ (⟨_, .assign _, _, _, _, _⟩ :: _) _ _ _; refine awl_pw (wt_none rfl) (pv_assign rfl rfl) rfl rfl ?_) | (show AWL _ _ _ (⟨_, .binOp .add _ _ _ _, _, _, _, _⟩ :: _) _ _ _; refine awl_pw (wt_none rfl) (pv_add rfl rfl rfl (by first | assumption | exact wr64 (by omega))) rfl rfl ?_) | refine awl_nil ?_)
    refine rnd_n _ _ _ ?_ ⟨k + 1, _, _, _, hlt, rfl, ?_, rfl, rfl⟩ (by first | ((repeat' (first | exact True.intro | refine ⟨rfl, ?_⟩)); all_goals fail) | fail) (by solve | repeat' constructor)
    · omega
    · rw [hrows, take_succ_getD [] hlt, List.map_append]; rfl
  · repeat (first | refine awp_seq ?_ | refine awp_region_lit rfl ?_ | refine awp_exit ?_ | refine awp_ret ?_ | with_reducible refine then_n ?_ | refine awp_cond_f rfl (by first | rfl | assumption | exact dF (by omega)) ?_ | (show AWL _ _ _ (⟨_, .move _, _, _, _, _⟩ :: _) _ _ _; refine awl_pw (wt_none rfl) (pv_move rfl rfl) rfl rfl ?_) | (show AWL _ _ _ (⟨_, .load _ _, _, _, _, _⟩ :: _) _ _ _; refine awl_lw (wt_none rfl) (lv_cl1 T0 rfl rfl rfl (by solve | repeat' constructor) (by first | rfl | assumption)) rfl rfl rfl ?_) | (show AWL _ _ _ (⟨_, .load _ _, _, _, _, _⟩ :: _) _ _ _; refine awl_lw (wt_none rfl) (lv_cla T0 rfl rfl rfl (by solve | repeat' constructor) rfl) rfl rfl rfl ?_) | (show AWL _ _ _ (⟨_, .fieldAddr _ _ _, _, _, _, _⟩ :: _) _ _ _; refine awl_pw (wt_none rfl) (pv_fa T0 rfl rfl rfl (by simp; rfl)) rfl rfl ?_) | (show AWL _ _ _ (⟨_, .binOp .lss _ _ _ _, _, _, _, _⟩ :: _) _ _ _; refine awl_pw (wt_none rfl) (pv_lss rfl rfl rfl) rfl rfl ?_) | (show AWL _ _ _ (⟨_, .call ⟨.builtin .len, _, _⟩, _, _, _, _⟩ :: _) _ _ _; refine awl_pw (wt_none rfl) (pv_len_t T0 rfl rfl rfl) rfl rfl ?_) | (show AWL _ _ _ (⟨_, .store _ _ _, _, _, _, _⟩ :: _) _ _ _; refine awl_hw (wt_none rfl) (st_store T0 rfl rfl rfl rfl rfl (by simp only [cellsA]; rfl) rfl rfl rfl (by solve | repeat' constructor) (by solve | repeat' constructor) trivial ?_)) | refine awl_nil ?_)
    refine bodyQ_ghost (ghost_freeze_cell (g := g2) (j := 0) (v := .slice a k c) (E := 29) (sz := 1) (rows := rows) (n := t.prices.length) (fun k => [intsT true (t.prices.getD k [])]) (by solve | repeat' constructor) (by solve | repeat' constructor) rfl rfl (by rw [hrows]; simp; omega) ?_) ?_
    · rw [hrows, List.take_of_length_le (by omega)]
      exact lstRows_tree t.prices
    refine body_p (.cons ⟨g2, _, _, _, _, rfl, rfl, (by solve | repeat' constructor), ?_, .inl rfl, rfl⟩ .nil) ?_
    · simp
    · rfl
theorem truth_p (t : TruthD) (h1 : t.prices.length ≤ 1000) (h2 : t.rates.length ≤ 1000) (h3 : ∀ k, k < t.prices.length → (t.prices.getD k []).length ≤ 1000) : PCall Try.prog 17 [truthA t] (fun r => r = truthA t) :=
  pcall_le (truth_p0 false false t h1 h2 h3) (.ag (.cons (.t (ofn_le fun k hk => ⟨rfl, one_le (ints_le _)⟩)) (.cons (.t (ints_le _)) .nil)))
end Go.Proofs.Ytlpknbneilgjkaa.M
end
