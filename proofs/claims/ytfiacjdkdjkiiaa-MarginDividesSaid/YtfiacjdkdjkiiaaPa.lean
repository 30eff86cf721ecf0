/- Parts: its walk. -/
import Derived.Test.YtfiacjdkdjkiiaaPu
namespace Go.Proofs.Ytfiacjdkdjkiiaa
open Go Go.RowKit Go.Tl
set_option linter.unusedVariables false
set_option linter.unusedSimpArgs false
set_option maxRecDepth 100000
set_option maxHeartbeats 20000000
attribute [local irreducible] AWP AWL AOp PV LV AWT AWE
theorem wrq {x y : Int} (h : x = y) (h' : -9223372036854775808 ≤ y ∧ y ≤ 9223372036854775807) : IntKind.i64.wrap x = y := by subst h; exact wr64 h'
theorem smax_v {v : Value} {xs : List Int} {rows : List (List AV)} {x : Int} (hl : xs.length ≤ 1000) (hp : 1 ≤ xs.length) (hr : rows = xs.map intRow) (hx : maxL xs = x) : ACall Try.prog 75 [.v v] [.rw v 3 1 rows] (fun r h' => r = intA x ∧ h' = [.rw v 3 1 rows]) := by subst hr hx; exact smax_o v xs hl hp
theorem parts_p (l : List Int) (s : Int) (hl : l.length ≤ 1000) : PCall Try.prog 36 [.t (intsT true l), intA s] (fun r => PartsR l s r) := by
  refine acall_of_awp T0 Try.func36 rfl rfl rfl ?_
  repeat (first | refine awp_seq ?_ | refine awp_region_lit rfl ?_ | refine awp_scope ?_ | ((first | (show AWL _ _ _ (⟨_, .move _, _, _, _, _⟩ :: _) _ _ _; refine awl_pw ?w (pv_move rfl rfl) rfl rfl ?_) | (show AWL _ _ _ (⟨_, .assign _, _, _, _, _⟩ :: _) _ _ _; refine awl_pw ?w (pv_assign rfl rfl) rfl rfl ?_) | (show AWL _ _ _ (⟨_, .call ⟨.builtin .len, _, _⟩, _, _, _, _⟩ :: _) _ _ _; refine awl_pw ?w (pv_len_t T0 rfl rfl rfl) rfl rfl ?_)); case w => first | exact wt_none rfl | exact wt_some' rfl rfl rfl rfl (by first | rfl | assumption | exact dT (by omega) | exact dF (by omega))) | refine awl_nil ?_)
  refine awl_hw (by first | exact wt_none rfl | exact wt_some' rfl rfl rfl rfl (by first | rfl | assumption | exact dT (by omega) | exact dF (by omega))) (st_bsl T0 rfl rfl rfl rfl rfl (by solve | repeat' constructor) rfl rfl rfl rfl (by simp only [List.map_cons, List.map_nil, cellsA]; rfl) ?_)
  intro g19
  skip
  refine awl_hw (by first | exact wt_none rfl | exact wt_some' rfl rfl rfl rfl (by first | rfl | assumption | exact dT (by omega) | exact dF (by omega))) (st_acall T0 (min_o g19 (l.length : Int) 4) rfl rfl rfl rfl (by first | exact callee_lit | exact callee_v | exact callee_fn) (by solve | repeat' constructor) rfl rfl (by first | ((repeat' (first | exact SubH.refl _ | apply SubH.cons | exact Pick.here | apply Pick.there)); all_goals fail) | fail) (fun _ _ => trivial) ?_)
  rintro r h ⟨rfl, rfl⟩
  simp only [List.nil_append]
  obtain ⟨m4, hm4⟩ : ∃ m4 : Nat, min (l.length : Int) 4 = m4 := ⟨min l.length 4, by omega⟩
  rw [hm4]
  repeat (first | refine awp_block ?_ | ((first | (show AWL _ _ _ (⟨_, .move _, _, _, _, _⟩ :: _) _ _ _; refine awl_pw ?w (pv_move rfl rfl) rfl rfl ?_) | (show AWL _ _ _ (⟨_, .slice _ _ _ _ _, _, _, _, _⟩ :: _) _ _ _; refine awl_pw ?w (pv_slice_hi T0 rfl rfl rfl rfl (by omega) (by first | exact Int.toNat_natCast _ | rfl)) rfl rfl ?_) | (show AWL _ _ _ (⟨_, .call ⟨.builtin .len, _, _⟩, _, _, _, _⟩ :: _) _ _ _; refine awl_pw ?w (pv_len_t T0 rfl rfl rfl) rfl rfl ?_)); case w => first | exact wt_none rfl | exact wt_some' rfl rfl rfl rfl (by first | rfl | assumption | exact dT (by omega) | exact dF (by omega))) | refine awl_nil ?_)
  refine awp_loop (fun m st h => ∃ (k : Nat) (t : Int), k ≤ m4 ∧ m = m4 - k ∧ t = capS l k ∧ st = [(0, .t (intsT true l)), (1, intA s), (6, intA t), (21, .t (.sl true 1 m4 (fun k => [.sc (.int .i64 (l.getD k 0))]))), (22, intA m4), (23, intA k)] ∧ h = []) ?_ ⟨0, _, Nat.zero_le _, rfl, rfl, rfl, rfl⟩ (by first | ((repeat' (first | exact True.intro | refine ⟨rfl, ?_⟩)); all_goals fail) | fail) (by solve | repeat' constructor)
  as_aux_lemma =>
    rintro m st h ⟨k, t, hk, rfl, ht, rfl, rfl⟩
    have hcb := cap_in l k
    by_cases hkt : k < m4
    · have hcn : 0 ≤ capN l k ∧ capN l k ≤ 100000 := by unfold capN; omega
      repeat (first | refine awp_seq ?_ | refine awp_block ?_ | refine awp_region_lit rfl ?_ | refine awp_skip ?_ | refine awp_cond_t rfl (by first | rfl | assumption | exact dT (by omega)) ?_ | ((first | (show AWL _ _ _ (⟨_, .move _, _, _, _, _⟩ :: _) _ _ _; refine awl_pw ?w (pv_move rfl rfl) rfl rfl ?_) | (show AWL _ _ _ (⟨_, .assign _, _, _, _, _⟩ :: _) _ _ _; refine awl_pw ?w (pv_assign rfl rfl) rfl rfl ?_) | (show AWL _ _ _ (⟨_, .load _ _, _, _, _, _⟩ :: _) _ _ _; refine awl_lw ?w (lv_elt_sc T0 rfl rfl rfl rfl) rfl rfl rfl ?_) | (show AWL _ _ _ (⟨_, .indexAddr _ _ _, _, _, _, _⟩ :: _) _ _ _; refine awl_pw ?w (pv_ix_t T0 rfl rfl rfl rfl (by omega) (by first | exact Int.toNat_natCast _ | rfl)) rfl rfl ?_) | (show AWL _ _ _ (⟨_, .binOp .lss _ _ _ _, _, _, _, _⟩ :: _) _ _ _; refine awl_pw ?w (pv_lss rfl rfl rfl) rfl rfl ?_)); case w => first | exact wt_none rfl | exact wt_some' rfl rfl rfl rfl (by first | rfl | assumption | exact dT (by omega) | exact dF (by omega))) | refine awl_nil ?_)
      refine awl_hw (by first | exact wt_none rfl | exact wt_some' rfl rfl rfl rfl (by first | rfl | assumption | exact dT (by omega) | exact dF (by omega))) (st_bsl T0 rfl rfl rfl rfl rfl (by solve | repeat' constructor) rfl rfl rfl rfl (by simp only [List.map_cons, List.map_nil, cellsA]; rfl) ?_)
      intro g29
      skip
      refine awl_hw (by first | exact wt_none rfl | exact wt_some' rfl rfl rfl rfl (by first | rfl | assumption | exact dT (by omega) | exact dF (by omega))) (st_acall T0 (min_o g29 (l.getD k 0) 100000) rfl rfl rfl rfl (by first | exact callee_lit | exact callee_v | exact callee_fn) (by solve | repeat' constructor) rfl rfl (by first | ((repeat' (first | exact SubH.refl _ | apply SubH.cons | exact Pick.here | apply Pick.there)); all_goals fail) | fail) (fun _ _ => trivial) ?_)
      rintro r h ⟨rfl, rfl⟩
      simp only [List.nil_append]
      have e : max 0 (min (l.getD k 0) 100000) = capN l k := rfl
      repeat (first | refine awp_region_lit rfl ?_ | ((first | (show AWL _ _ _ (⟨_, .move _, _, _, _, _⟩ :: _) _ _ _; refine awl_pw ?w (pv_move rfl rfl) rfl rfl ?_) | (show AWL _ _ _ (⟨_, .assign _, _, _, _, _⟩ :: _) _ _ _; refine awl_pw ?w (pv_assign rfl rfl) rfl rfl ?_) | (show AWL _ _ _ (⟨_, .binOp .add _ _ _ _, _, _, _, _⟩ :: _) _ _ _; refine awl_pw ?w (pv_add rfl rfl rfl (by first | assumption | exact wr64 (by omega))) rfl rfl ?_) | (show AWL _ _ _ (⟨_, .call ⟨.builtin .max, _, _⟩, _, _, _, _⟩ :: _) _ _ _; refine awl_pw ?w (pv_max2 rfl rfl rfl) rfl rfl ?_)); case w => first | exact wt_none rfl | exact wt_some' rfl rfl rfl rfl (by first | rfl | assumption | exact dT (by omega) | exact dF (by omega))) | refine awl_nil ?_)
      refine rnd_n _ _ _ ?_ ⟨k + 1, _, hkt, rfl, ?_, rfl, rfl⟩ (by first | ((repeat' (first | exact True.intro | refine ⟨rfl, ?_⟩)); all_goals fail) | fail) (by solve | repeat' constructor)
      · omega
      · rw [ht, e]; rfl
    obtain rfl : k = m4 := by omega
    as_aux_lemma =>
      by_cases h4 : 4 < l.length
      · repeat (first | refine awp_seq ?_ | refine awp_block ?_ | refine awp_region_lit rfl ?_ | refine awp_exit ?_ | refine awp_ret ?_ | refine then_n ?_ | refine then_r ?_ | refine blk_r ?_ | refine sco_r ?_ | refine awp_cond_t rfl (by first | rfl | assumption | exact dT (by omega)) ?_ | refine awp_cond_f rfl (by first | rfl | assumption | exact dF (by omega)) ?_ | ((first | (show AWL _ _ _ (⟨_, .move _, _, _, _, _⟩ :: _) _ _ _; refine awl_pw ?w (pv_move rfl rfl) rfl rfl ?_) | (show AWL _ _ _ (⟨_, .assign _, _, _, _, _⟩ :: _) _ _ _; refine awl_pw ?w (pv_assign rfl rfl) rfl rfl ?_) | (show AWL _ _ _ (⟨_, .binOp .lss _ _ _ _, _, _, _, _⟩ :: _) _ _ _; refine awl_pw ?w (pv_lss rfl rfl rfl) rfl rfl ?_) | (show AWL _ _ _ (⟨_, .binOp .gtr _ _ _ _, _, _, _, _⟩ :: _) _ _ _; refine awl_pw ?w (pv_gtr rfl rfl rfl) rfl rfl ?_) | (show AWL _ _ _ (⟨_, .call ⟨.builtin .len, _, _⟩, _, _, _, _⟩ :: _) _ _ _; refine awl_pw ?w (pv_len_t T0 rfl rfl rfl) rfl rfl ?_)); case w => first | exact wt_none rfl | exact wt_some' rfl rfl rfl rfl (by first | rfl | assumption | exact dT (by omega) | exact dF (by omega))) | refine awl_nil ?_)
        exact body_p (.cons rfl (.cons rfl .nil)) (.inl ⟨h4, rfl⟩)
      have e4 : k = l.length := by omega
      have hz : l.all (inB · 0 100000) = true → t = sumF (fun k => l.getD k 0) l.length := fun h => by rw [ht, e4]; exact cap_eq h
      by_cases h0 : t = 0
      · repeat (first | refine awp_seq ?_ | refine awp_block ?_ | refine awp_region_lit rfl ?_ | refine awp_exit ?_ | refine awp_ret ?_ | refine then_n ?_ | refine then_r ?_ | refine blk_r ?_ | refine sco_r ?_ | refine awp_cond_t rfl (by first | rfl | assumption | exact dT (by omega)) ?_ | refine awp_cond_f rfl (by first | rfl | assumption | exact dF (by omega)) ?_ | ((first | (show AWL _ _ _ (⟨_, .move _, _, _, _, _⟩ :: _) _ _ _; refine awl_pw ?w (pv_move rfl rfl) rfl rfl ?_) | (show AWL _ _ _ (⟨_, .assign _, _, _, _, _⟩ :: _) _ _ _; refine awl_pw ?w (pv_assign rfl rfl) rfl rfl ?_) | (show AWL _ _ _ (⟨_, .build _ _, _, _, _, _⟩ :: _) _ _ _; refine awl_pw ?w (pv_build T0 rfl rfl rfl (by simp only [Value.cells, List.toList_toArray, List.map_cons, List.map_nil]; rfl) (by first | ((repeat' (first | exact BParts.nil | apply BParts.cons | rfl)); all_goals fail) | fail) (by first | ((repeat' (first | exact FillA.nil | exact Sp.done | apply FillA.cons | apply Sp.put | apply Sp.skip | (simp only [cellsA]; rfl) | rfl)); all_goals fail) | fail)) rfl rfl ?_) | (show AWL _ _ _ (⟨_, .binOp .lss _ _ _ _, _, _, _, _⟩ :: _) _ _ _; refine awl_pw ?w (pv_lss rfl rfl rfl) rfl rfl ?_) | (show AWL _ _ _ (⟨_, .binOp .gtr _ _ _ _, _, _, _, _⟩ :: _) _ _ _; refine awl_pw ?w (pv_gtr rfl rfl rfl) rfl rfl ?_) | (show AWL _ _ _ (⟨_, .binOp .eql _ _ _ _, _, _, _, _⟩ :: _) _ _ _; refine awl_pw ?w (pv_eql rfl rfl rfl) rfl rfl ?_) | (show AWL _ _ _ (⟨_, .call ⟨.builtin .len, _, _⟩, _, _, _, _⟩ :: _) _ _ _; refine awl_pw ?w (pv_len_t T0 rfl rfl rfl) rfl rfl ?_) | (show AWL _ _ _ (⟨_, .pick _ _ _, _, _, _, _⟩ :: _) _ _ _; refine awl_pw ?w (pv_pick_t rfl rfl (by first | rfl | assumption | exact dT (by omega) | exact dF (by omega)) rfl) rfl rfl ?_)); case w => first | exact wt_none rfl | exact wt_some' rfl rfl rfl rfl (by first | rfl | assumption | exact dT (by omega) | exact dF (by omega))) | refine awl_sk (wf_some rfl rfl rfl rfl (by first | rfl | assumption | exact dT (by omega) | exact dF (by omega))) rfl rfl ?_ | refine awl_nil ?_)
        refine body_p (.cons rfl (.cons rfl .nil)) (.inr (.inl ⟨by omega, ?_, rfl⟩))
        cases ha : l.all (inB · 0 100000)
        · exact .inl rfl
        · exact .inr (by rw [← hz ha]; exact h0)
      cases ha : l.all (inB · 0 100000)
      · repeat (first | refine awp_seq ?_ | refine awp_block ?_ | refine awp_region_lit rfl ?_ | refine awp_exit ?_ | refine then_n ?_ | refine awp_cond_f rfl (by first | rfl | assumption | exact dF (by omega)) ?_ | ((first | (show AWL _ _ _ (⟨_, .move _, _, _, _, _⟩ :: _) _ _ _; refine awl_pw ?w (pv_move rfl rfl) rfl rfl ?_) | (show AWL _ _ _ (⟨_, .assign _, _, _, _, _⟩ :: _) _ _ _; refine awl_pw ?w (pv_assign rfl rfl) rfl rfl ?_) | (show AWL _ _ _ (⟨_, .build _ _, _, _, _, _⟩ :: _) _ _ _; refine awl_pw ?w (pv_build T0 rfl rfl rfl (by simp only [Value.cells, List.toList_toArray, List.map_cons, List.map_nil]; rfl) (by first | ((repeat' (first | exact BParts.nil | apply BParts.cons | rfl)); all_goals fail) | fail) (by first | ((repeat' (first | exact FillA.nil | exact Sp.done | apply FillA.cons | apply Sp.put | apply Sp.skip | (simp only [cellsA]; rfl) | rfl)); all_goals fail) | fail)) rfl rfl ?_) | (show AWL _ _ _ (⟨_, .binOp .lss _ _ _ _, _, _, _, _⟩ :: _) _ _ _; refine awl_pw ?w (pv_lss rfl rfl rfl) rfl rfl ?_) | (show AWL _ _ _ (⟨_, .binOp .gtr _ _ _ _, _, _, _, _⟩ :: _) _ _ _; refine awl_pw ?w (pv_gtr rfl rfl rfl) rfl rfl ?_) | (show AWL _ _ _ (⟨_, .binOp .eql _ _ _ _, _, _, _, _⟩ :: _) _ _ _; refine awl_pw ?w (pv_eql rfl rfl rfl) rfl rfl ?_) | (show AWL _ _ _ (⟨_, .call ⟨.builtin .len, _, _⟩, _, _, _, _⟩ :: _) _ _ _; refine awl_pw ?w (pv_len_t T0 rfl rfl rfl) rfl rfl ?_)); case w => first | exact wt_none rfl | exact wt_some' rfl rfl rfl rfl (by first | rfl | assumption | exact dT (by omega) | exact dF (by omega))) | refine awl_nil ?_)
        refine awl_pw (by first | exact wt_none rfl | exact wt_some' rfl rfl rfl rfl (by first | rfl | assumption | exact dT (by omega) | exact dF (by omega))) (pv_makeFunc_av (fs := [.ag [intA 0, intA 100000]]) (cs := []) rfl rfl rfl) rfl rfl ?_
        skip
        refine awl_hw (by first | exact wt_none rfl | exact wt_some' rfl rfl rfl rfl (by first | rfl | assumption | exact dT (by omega) | exact dF (by omega))) (st_call T0 (all_v hl ha) rfl rfl rfl rfl (by first | exact callee_lit | exact callee_v | exact callee_fn) (by solve | repeat' constructor) rfl rfl ?_)
        rintro _ rfl
        repeat (first | refine awp_seq ?_ | refine awp_region_lit rfl ?_ | refine awp_ret ?_ | refine then_n ?_ | refine then_r ?_ | refine blk_r ?_ | refine sco_r ?_ | refine awp_cond_t rfl (by first | rfl | assumption | exact dT (by omega)) ?_ | ((first | (show AWL _ _ _ (⟨_, .assign _, _, _, _, _⟩ :: _) _ _ _; refine awl_pw ?w (pv_assign rfl rfl) rfl rfl ?_) | (show AWL _ _ _ (⟨_, .unOp .not _ _, _, _, _, _⟩ :: _) _ _ _; refine awl_pw ?w (pv_not rfl rfl) rfl rfl ?_) | (show AWL _ _ _ (⟨_, .pick _ _ _, _, _, _, _⟩ :: _) _ _ _; refine awl_pw ?w (pv_pick_f rfl rfl (by first | rfl | assumption | exact dT (by omega) | exact dF (by omega)) rfl) rfl rfl ?_)); case w => first | exact wt_none rfl | exact wt_some' rfl rfl rfl rfl (by first | rfl | assumption | exact dT (by omega) | exact dF (by omega))) | refine awl_nil ?_)
        exact body_p (.cons rfl (.cons rfl .nil)) (.inr (.inl ⟨by omega, .inl ha, rfl⟩))
      repeat (first | refine awp_seq ?_ | refine awp_block ?_ | refine awp_region_lit rfl ?_ | refine awp_exit ?_ | refine then_n ?_ | refine awp_cond_f rfl (by first | rfl | assumption | exact dF (by omega)) ?_ | ((first | (show AWL _ _ _ (⟨_, .move _, _, _, _, _⟩ :: _) _ _ _; refine awl_pw ?w (pv_move rfl rfl) rfl rfl ?_) | (show AWL _ _ _ (⟨_, .assign _, _, _, _, _⟩ :: _) _ _ _; refine awl_pw ?w (pv_assign rfl rfl) rfl rfl ?_) | (show AWL _ _ _ (⟨_, .build _ _, _, _, _, _⟩ :: _) _ _ _; refine awl_pw ?w (pv_build T0 rfl rfl rfl (by simp only [Value.cells, List.toList_toArray, List.map_cons, List.map_nil]; rfl) (by first | ((repeat' (first | exact BParts.nil | apply BParts.cons | rfl)); all_goals fail) | fail) (by first | ((repeat' (first | exact FillA.nil | exact Sp.done | apply FillA.cons | apply Sp.put | apply Sp.skip | (simp only [cellsA]; rfl) | rfl)); all_goals fail) | fail)) rfl rfl ?_) | (show AWL _ _ _ (⟨_, .binOp .lss _ _ _ _, _, _, _, _⟩ :: _) _ _ _; refine awl_pw ?w (pv_lss rfl rfl rfl) rfl rfl ?_) | (show AWL _ _ _ (⟨_, .binOp .gtr _ _ _ _, _, _, _, _⟩ :: _) _ _ _; refine awl_pw ?w (pv_gtr rfl rfl rfl) rfl rfl ?_) | (show AWL _ _ _ (⟨_, .binOp .eql _ _ _ _, _, _, _, _⟩ :: _) _ _ _; refine awl_pw ?w (pv_eql rfl rfl rfl) rfl rfl ?_) | (show AWL _ _ _ (⟨_, .call ⟨.builtin .len, _, _⟩, _, _, _, _⟩ :: _) _ _ _; refine awl_pw ?w (pv_len_t T0 rfl rfl rfl) rfl rfl ?_)); case w => first | exact wt_none rfl | exact wt_some' rfl rfl rfl rfl (by first | rfl | assumption | exact dT (by omega) | exact dF (by omega))) | refine awl_nil ?_)
      refine awl_pw (by first | exact wt_none rfl | exact wt_some' rfl rfl rfl rfl (by first | rfl | assumption | exact dT (by omega) | exact dF (by omega))) (pv_makeFunc_av (fs := [.ag [intA 0, intA 100000]]) (cs := []) rfl rfl rfl) rfl rfl ?_
      skip
      refine awl_hw (by first | exact wt_none rfl | exact wt_some' rfl rfl rfl rfl (by first | rfl | assumption | exact dT (by omega) | exact dF (by omega))) (st_call T0 (all_v hl ha) rfl rfl rfl rfl (by first | exact callee_lit | exact callee_v | exact callee_fn) (by solve | repeat' constructor) rfl rfl ?_)
      rintro _ rfl
      have ht' := hz ha
      have hai := fun k (hk : k < l.length) => all_in ha hk
      have hm : l.length ≤ 4 := by omega
      have hT : 0 < t ∧ t ≤ 400000 := by omega
      clear hz hcb hm4 ht hk hkt
      cases hs : inB s 0 t
      · repeat (first | refine awp_seq ?_ | refine awp_region_lit rfl ?_ | refine then_n ?_ | refine awp_cond_f rfl (by first | rfl | assumption | exact dF (by omega)) ?_ | ((first | (show AWL _ _ _ (⟨_, .move _, _, _, _, _⟩ :: _) _ _ _; refine awl_pw ?w (pv_move rfl rfl) rfl rfl ?_) | (show AWL _ _ _ (⟨_, .assign _, _, _, _, _⟩ :: _) _ _ _; refine awl_pw ?w (pv_assign rfl rfl) rfl rfl ?_) | (show AWL _ _ _ (⟨_, .unOp .not _ _, _, _, _, _⟩ :: _) _ _ _; refine awl_pw ?w (pv_not rfl rfl) rfl rfl ?_) | (show AWL _ _ _ (⟨_, .pick _ _ _, _, _, _, _⟩ :: _) _ _ _; refine awl_pw ?w (pv_pick_f rfl rfl (by first | rfl | assumption | exact dT (by omega) | exact dF (by omega)) rfl) rfl rfl ?_)); case w => first | exact wt_none rfl | exact wt_some' rfl rfl rfl rfl (by first | rfl | assumption | exact dT (by omega) | exact dF (by omega))) | refine awl_nil ?_)
        refine awl_hw (by first | exact wt_none rfl | exact wt_some' rfl rfl rfl rfl (by first | rfl | assumption | exact dT (by omega) | exact dF (by omega))) (st_call T0 (within_v hs) rfl rfl rfl rfl (by first | exact callee_lit | exact callee_v | exact callee_fn) (by solve | repeat' constructor) rfl rfl ?_)
        rintro _ rfl
        repeat (first | refine awp_seq ?_ | refine awp_region_lit rfl ?_ | refine awp_ret ?_ | refine then_n ?_ | refine then_r ?_ | refine blk_r ?_ | refine sco_r ?_ | refine awp_cond_t rfl (by first | rfl | assumption | exact dT (by omega)) ?_ | ((first | (show AWL _ _ _ (⟨_, .assign _, _, _, _, _⟩ :: _) _ _ _; refine awl_pw ?w (pv_assign rfl rfl) rfl rfl ?_) | (show AWL _ _ _ (⟨_, .unOp .not _ _, _, _, _, _⟩ :: _) _ _ _; refine awl_pw ?w (pv_not rfl rfl) rfl rfl ?_)); case w => first | exact wt_none rfl | exact wt_some' rfl rfl rfl rfl (by first | rfl | assumption | exact dT (by omega) | exact dF (by omega))) | refine awl_nil ?_)
        exact body_p (.cons rfl (.cons rfl .nil)) (.inr (.inr (.inl ⟨hm, ha, by omega, by rw [← ht']; exact hs, rfl⟩)))
      have hs' := inB_iff.1 hs
      as_aux_lemma =>
        repeat (first | refine awp_seq ?_ | refine awp_region_lit rfl ?_ | refine then_n ?_ | refine awp_cond_f rfl (by first | rfl | assumption | exact dF (by omega)) ?_ | ((first | (show AWL _ _ _ (⟨_, .move _, _, _, _, _⟩ :: _) _ _ _; refine awl_pw ?w (pv_move rfl rfl) rfl rfl ?_) | (show AWL _ _ _ (⟨_, .assign _, _, _, _, _⟩ :: _) _ _ _; refine awl_pw ?w (pv_assign rfl rfl) rfl rfl ?_) | (show AWL _ _ _ (⟨_, .unOp .not _ _, _, _, _, _⟩ :: _) _ _ _; refine awl_pw ?w (pv_not rfl rfl) rfl rfl ?_) | (show AWL _ _ _ (⟨_, .pick _ _ _, _, _, _, _⟩ :: _) _ _ _; refine awl_pw ?w (pv_pick_f rfl rfl (by first | rfl | assumption | exact dT (by omega) | exact dF (by omega)) rfl) rfl rfl ?_)); case w => first | exact wt_none rfl | exact wt_some' rfl rfl rfl rfl (by first | rfl | assumption | exact dT (by omega) | exact dF (by omega))) | refine awl_nil ?_)
        refine awl_hw (by first | exact wt_none rfl | exact wt_some' rfl rfl rfl rfl (by first | rfl | assumption | exact dT (by omega) | exact dF (by omega))) (st_call T0 (within_v hs) rfl rfl rfl rfl (by first | exact callee_lit | exact callee_v | exact callee_fn) (by solve | repeat' constructor) rfl rfl ?_)
        rintro _ rfl
        repeat (first | refine awp_seq ?_ | refine awp_block ?_ | refine awp_region_lit rfl ?_ | refine awp_skip ?_ | refine then_n ?_ | refine awp_cond_f rfl (by first | rfl | assumption | exact dF (by omega)) ?_ | ((first | (show AWL _ _ _ (⟨_, .move _, _, _, _, _⟩ :: _) _ _ _; refine awl_pw ?w (pv_move rfl rfl) rfl rfl ?_) | (show AWL _ _ _ (⟨_, .assign _, _, _, _, _⟩ :: _) _ _ _; refine awl_pw ?w (pv_assign rfl rfl) rfl rfl ?_) | (show AWL _ _ _ (⟨_, .call ⟨.builtin .len, _, _⟩, _, _, _, _⟩ :: _) _ _ _; refine awl_pw ?w (pv_len_t T0 rfl rfl rfl) rfl rfl ?_) | (show AWL _ _ _ (⟨_, .unOp .not _ _, _, _, _, _⟩ :: _) _ _ _; refine awl_pw ?w (pv_not rfl rfl) rfl rfl ?_)); case w => first | exact wt_none rfl | exact wt_some' rfl rfl rfl rfl (by first | rfl | assumption | exact dT (by omega) | exact dF (by omega))) | refine awl_nil ?_)
        have hL := left_in (s := s) (l := l) ht'.symm hT.1
        have hG0 := given_zero (rN l s t) l.length
        have hrpos := fun k (_ : k < l.length) => (rN_in (l := l) (s := s) hT.1 k).1
        refine awp_ghost (ghost_nilrow 3 1) ?_
        refine awp_ghost (ghost_nilrow 3 1) ?_
        refine awp_loop (fun m st h => ∃ (k : Nat) (a : Option Addr) (c : Nat) (a' : Option Addr) (c' : Nat) (lf : Int) (r1 r2 : List (List AV)), k ≤ l.length ∧ m = l.length - k ∧ lf = leftN l s t k ∧ r1 = fRows (qN l s t) k ∧ r2 = fRows (rN l s t) k ∧ (0 < k → ∃ g, a = some ⟨g, 0, none⟩) ∧ (0 < k → ∃ g, a' = some ⟨g, 0, none⟩) ∧
          st = [(1, intA s), (6, intA t), (9, .v (.slice a k c)), (10, .v (.slice a' k c')), (11, intA lf), (54, .t (intsT true l)), (55, intA l.length), (56, intA k)] ∧
          h = [.rw (.slice a k c) 3 1 r1, .rw (.slice a' k c') 3 1 r2]) ?_ ⟨0, _, _, _, _, s, _, _, Nat.zero_le _, rfl, (show s = leftN l s t 0 by simp [leftN, sumF]), rfl, rfl, (fun h => absurd h (by omega)), (fun h => absurd h (by omega)), rfl, rfl⟩ (by first | ((repeat' (first | exact True.intro | refine ⟨rfl, ?_⟩)); all_goals fail) | fail) (by solve | repeat' constructor)
        as_aux_lemma =>
          rintro m st h ⟨k, a, c, a', c', lf, r1, r2, hk, rfl, hlf, hr1, hr2, ha1, ha2, rfl, rfl⟩
          have hn1 : r1.length = k := by rw [hr1]; exact fRows_len _ _
          have hn2 : r2.length = k := by rw [hr2]; exact fRows_len _ _
          by_cases hkt : k < l.length
          · have hx := hai k hkt
            have hp0 := Int.mul_nonneg hx.1 hs'.1
            have hp1 : l.getD k 0 * s ≤ 100000 * 400000 := Int.mul_le_mul hx.2 (by omega) hs'.1 (by decide)
            have hq : IntKind.i64.wrap ((l.getD k 0 * s).tdiv t) = qN l s t k := wrq (Int.tdiv_eq_ediv_of_nonneg hp0) (by
              have h1 := Int.ediv_nonneg hp0 (show 0 ≤ t by omega)
              have h2 := Int.ediv_le_self t hp0
              unfold qN; omega)
            have hr : (l.getD k 0 * s).tmod t = rN l s t k := Int.tmod_eq_emod_of_nonneg hp0
            have hqb : 0 ≤ qN l s t k ∧ qN l s t k ≤ 100000 * 400000 := by
              have h1 := Int.ediv_nonneg hp0 (show 0 ≤ t by omega)
              have h2 := Int.ediv_le_self t hp0
              unfold qN; omega
            have hlb : -1000000000000 ≤ lf ∧ lf ≤ 1000000000000 := by
              have h1 : 0 ≤ sumF (qN l s t) k := sumF_nonneg fun q hq => Int.ediv_nonneg (Int.mul_nonneg (hai q (by omega)).1 hs'.1) (by omega)
              have h2 : sumF (qN l s t) k ≤ k * 40000000000 := by
                rw [← sumF_const]
                refine sumF_le fun q hq => ?_
                have g1 := Int.mul_nonneg (hai q (by omega)).1 hs'.1
                have g2 : l.getD q 0 * s ≤ 100000 * 400000 := Int.mul_le_mul (hai q (by omega)).2 (by omega) hs'.1 (by decide)
                have g3 := Int.ediv_le_self t g1
                show l.getD q 0 * s / t ≤ _
                omega
              unfold leftN at hlf; omega
            have hlf' : leftN l s t (k + 1) = lf - qN l s t k := by rw [hlf]; unfold leftN; simp only [sumF]; omega
            repeat (first | refine awp_seq ?_ | refine awp_block ?_ | refine awp_region_lit rfl ?_ | refine awp_skip ?_ | refine awp_cond_t rfl (by first | rfl | assumption | exact dT (by omega)) ?_ | ((first | (show AWL _ _ _ (⟨_, .assign _, _, _, _, _⟩ :: _) _ _ _; refine awl_pw ?w (pv_assign rfl rfl) rfl rfl ?_) | (show AWL _ _ _ (⟨_, .load _ _, _, _, _, _⟩ :: _) _ _ _; refine awl_lw ?w (lv_elt_sc T0 rfl rfl rfl rfl) rfl rfl rfl ?_) | (show AWL _ _ _ (⟨_, .indexAddr _ _ _, _, _, _, _⟩ :: _) _ _ _; refine awl_pw ?w (pv_ix_t T0 rfl rfl rfl rfl (by omega) (by first | exact Int.toNat_natCast _ | rfl)) rfl rfl ?_) | (show AWL _ _ _ (⟨_, .binOp .lss _ _ _ _, _, _, _, _⟩ :: _) _ _ _; refine awl_pw ?w (pv_lss rfl rfl rfl) rfl rfl ?_)); case w => first | exact wt_none rfl | exact wt_some' rfl rfl rfl rfl (by first | rfl | assumption | exact dT (by omega) | exact dF (by omega))) | refine awl_nil ?_)
            refine awp_cut (fun st h => ∃ (b1 : Option Addr) (d1 : Nat) (b2 : Option Addr) (d2 : Nat), (∃ g, b1 = some ⟨g, 0, none⟩) ∧ (∃ g, b2 = some ⟨g, 0, none⟩) ∧ st = [(1, intA s), (6, intA t), (9, .v (.slice b1 (k + 1) d1)), (10, .v (.slice b2 (k + 1) d2)), (11, intA lf), (13, intA (l.getD k 0)), (54, .t (intsT true l)), (55, intA l.length), (56, intA k)] ∧
              h = [.rw (.slice b1 (k + 1) d1) 3 1 (r1 ++ [[intA (qN l s t k)]]), .rw (.slice b2 (k + 1) d2) 3 1 (r2 ++ [[intA (rN l s t k)]])]) ?_ ?_
            · as_aux_lemma =>
                refine awp_tree T0 [(0, 0), (1, 0), (2, 0), (3, 0), (4, 0), (5, 0), (8, 0), (9, 0), (10, 0), (11, 0), (12, 0), (13, 0), (6, 3), (7, 3), (14, 3), (15, 3), (16, 0), (17, 0)] (.op 0 0 (.op 1 0 (.op 2 0 (.op 3 0 (.op 4 0 (.op 5 0 (.op 8 0 (.op 9 0 (.op 10 0 (.op 11 0 (.op 12 0 (.op 13 0 (.fork 6 (.fork 7 (.op 14 3 (.op 15 3 (.op 16 0 (.op 17 0 .stop)))) 14 (.op 7 3 (.op 15 3 (.op 16 0 (.op 17 0 .stop))))) 14 (.op 6 3 (.op 7 3 (.op 15 3 (.op 16 0 (.op 17 0 .stop)))))))))))))))))) [] rfl (by kernel_rfl) (by solve | repeat' constructor) ?_
                refine awt_po rfl (wt_none rfl) (pv_move rfl rfl) rfl rfl ?_
                refine awt_po rfl (wt_none rfl) (pv_move rfl rfl) rfl rfl ?_
                refine awt_po rfl (wt_none rfl) (pv_move rfl rfl) rfl rfl ?_
                refine awt_po rfl (wt_none rfl) (pv_mul rfl rfl rfl (by first | assumption | exact wr64 (by omega))) rfl rfl ?_
                refine awt_po rfl (wt_none rfl) (pv_move rfl rfl) rfl rfl ?_
                refine awt_po rfl (wt_none rfl) (pv_quo rfl rfl rfl (by omega) (by first | assumption | exact wr64 (by omega))) rfl rfl ?_
                refine awt_po rfl (wt_none rfl) (pv_move rfl rfl) rfl rfl ?_
                refine awt_po rfl (wt_none rfl) (pv_move rfl rfl) rfl rfl ?_
                refine awt_po rfl (wt_none rfl) (pv_move rfl rfl) rfl rfl ?_
                refine awt_po rfl (wt_none rfl) (pv_mul rfl rfl rfl (by first | assumption | exact wr64 (by omega))) rfl rfl ?_
                refine awt_po rfl (wt_none rfl) (pv_move rfl rfl) rfl rfl ?_
                refine awt_po rfl (wt_none rfl) (pv_rem rfl rfl rfl (by omega) (by first | assumption | rfl)) rfl rfl ?_
                refine awt_fork ?_ ?_
                · skip
                  refine awt_h (hm := []) rfl (wt_none rfl) (by solve | repeat' constructor) rfl (st_bsl T0 rfl rfl rfl rfl rfl (by solve | repeat' constructor) rfl rfl rfl rfl (by simp only [List.map_cons, List.map_nil, cellsA]; rfl) ?_)
                  intro g66
                  refine awt_fork ?_ ?_
                  · skip
                    refine awt_h (hm := _) rfl (wt_none rfl) ?sub rfl (st_app_o T0 rfl rfl rfl rfl rfl rfl rfl rfl rfl (by solve | repeat' constructor) (by solve | repeat' constructor) rfl rfl hn1 (by omega) ?_)
                    case sub => exact (by solve | repeat' constructor)
                    intro a67 c67 p67
                    refine awt_s (md := fun _ => True) rfl (wt_none rfl) (st_bsl T0 rfl rfl rfl rfl rfl (by solve | repeat' constructor) rfl rfl rfl rfl (by simp only [List.map_cons, List.map_nil, cellsA]; rfl) ?_)
                    intro g74
                    refine awe_s (md := fun _ => True) rfl (wt_none rfl) (st_app T0 rfl rfl rfl rfl rfl rfl rfl rfl rfl (by solve | repeat' constructor) (by solve | repeat' constructor) rfl rfl hn2 (by omega) (fun _ _ => trivial) ?_)
                    intro a75 c75 p75
                    refine awe_p rfl (wt_none rfl) (pv_assign rfl rfl) rfl rfl ?_
                    refine awe_p rfl (wt_none rfl) (pv_assign rfl rfl) rfl rfl ?_
                    refine awe_end ?_
                    exact cut_n ⟨_, _, _, _, p67 (by omega), p75 (by omega), rfl, rfl⟩ (by first | ((repeat' (first | exact True.intro | refine ⟨rfl, ?_⟩)); all_goals fail) | fail) (by solve | repeat' constructor)
                  · skip
                    refine awt_h (hm := []) rfl (wt_none rfl) (by solve | repeat' constructor) rfl (st_bsl T0 rfl rfl rfl rfl rfl (by solve | repeat' constructor) rfl rfl rfl rfl (by simp only [List.map_cons, List.map_nil, cellsA]; rfl) ?_)
                    intro g74
                    refine awt_s (md := fun _ => True) rfl (wt_none rfl) (st_app T0 rfl rfl rfl rfl rfl rfl rfl rfl rfl (by solve | repeat' constructor) (by solve | repeat' constructor) rfl rfl hn1 (by omega) (fun _ _ => trivial) ?_)
                    intro a67 c67 p67
                    refine awe_s (md := fun _ => True) rfl (wt_none rfl) (st_app T0 rfl rfl rfl rfl rfl rfl rfl rfl rfl (by solve | repeat' constructor) (by solve | repeat' constructor) rfl rfl hn2 (by omega) (fun _ _ => trivial) ?_)
                    intro a75 c75 p75
                    refine awe_p rfl (wt_none rfl) (pv_assign rfl rfl) rfl rfl ?_
                    refine awe_p rfl (wt_none rfl) (pv_assign rfl rfl) rfl rfl ?_
                    refine awe_end ?_
                    exact cut_n ⟨_, _, _, _, p67 (by omega), p75 (by omega), rfl, rfl⟩ (by first | ((repeat' (first | exact True.intro | refine ⟨rfl, ?_⟩)); all_goals fail) | fail) (by solve | repeat' constructor)
                · skip
                  refine awt_h (hm := []) rfl (wt_none rfl) (by solve | repeat' constructor) rfl (st_bsl T0 rfl rfl rfl rfl rfl (by solve | repeat' constructor) rfl rfl rfl rfl (by simp only [List.map_cons, List.map_nil, cellsA]; rfl) ?_)
                  intro g74
                  refine awt_s (md := fun _ => True) rfl (wt_none rfl) (st_bsl T0 rfl rfl rfl rfl rfl (by solve | repeat' constructor) rfl rfl rfl rfl (by simp only [List.map_cons, List.map_nil, cellsA]; rfl) ?_)
                  intro g66
                  refine awe_s (md := fun _ => True) rfl (wt_none rfl) (st_app T0 rfl rfl rfl rfl rfl rfl rfl rfl rfl (by solve | repeat' constructor) (by solve | repeat' constructor) rfl rfl hn1 (by omega) (fun _ _ => trivial) ?_)
                  intro a67 c67 p67
                  refine awe_s (md := fun _ => True) rfl (wt_none rfl) (st_app T0 rfl rfl rfl rfl rfl rfl rfl rfl rfl (by solve | repeat' constructor) (by solve | repeat' constructor) rfl rfl hn2 (by omega) (fun _ _ => trivial) ?_)
                  intro a75 c75 p75
                  refine awe_p rfl (wt_none rfl) (pv_assign rfl rfl) rfl rfl ?_
                  refine awe_p rfl (wt_none rfl) (pv_assign rfl rfl) rfl rfl ?_
                  refine awe_end ?_
                  exact cut_n ⟨_, _, _, _, p67 (by omega), p75 (by omega), rfl, rfl⟩ (by first | ((repeat' (first | exact True.intro | refine ⟨rfl, ?_⟩)); all_goals fail) | fail) (by solve | repeat' constructor)
            as_aux_lemma =>
              rintro st h ⟨b1, d1, b2, d2, hb1, hb2, rfl, rfl⟩
              repeat (first | refine awp_region_lit rfl ?_ | ((first | (show AWL _ _ _ (⟨_, .move _, _, _, _, _⟩ :: _) _ _ _; refine awl_pw ?w (pv_move rfl rfl) rfl rfl ?_) | (show AWL _ _ _ (⟨_, .assign _, _, _, _, _⟩ :: _) _ _ _; refine awl_pw ?w (pv_assign rfl rfl) rfl rfl ?_) | (show AWL _ _ _ (⟨_, .binOp .add _ _ _ _, _, _, _, _⟩ :: _) _ _ _; refine awl_pw ?w (pv_add rfl rfl rfl (by first | assumption | exact wr64 (by omega))) rfl rfl ?_) | (show AWL _ _ _ (⟨_, .binOp .sub _ _ _ _, _, _, _, _⟩ :: _) _ _ _; refine awl_pw ?w (pv_sub rfl rfl rfl (by first | assumption | exact wr64 (by omega))) rfl rfl ?_) | (show AWL _ _ _ (⟨_, .binOp .mul _ _ _ _, _, _, _, _⟩ :: _) _ _ _; refine awl_pw ?w (pv_mul rfl rfl rfl (by first | assumption | exact wr64 (by omega))) rfl rfl ?_) | (show AWL _ _ _ (⟨_, .binOp .quo _ _ _ _, _, _, _, _⟩ :: _) _ _ _; refine awl_pw ?w (pv_quo rfl rfl rfl (by omega) (by first | assumption | exact wr64 (by omega))) rfl rfl ?_)); case w => first | exact wt_none rfl | exact wt_some' rfl rfl rfl rfl (by first | rfl | assumption | exact dT (by omega) | exact dF (by omega))) | refine awl_nil ?_)
              refine rnd_n _ _ _ ?_ ⟨k + 1, _, _, _, _, _, _, _, hkt, rfl, hlf'.symm, ?_, ?_, (fun _ => hb1), (fun _ => hb2), rfl, rfl⟩ (by first | ((repeat' (first | exact True.intro | refine ⟨rfl, ?_⟩)); all_goals fail) | fail) (by solve | repeat' constructor)
              · omega
              · rw [hr1, fRows_step]
              · rw [hr2, fRows_step]
          obtain rfl : k = l.length := by omega
          have hm1 : 1 ≤ l.length := by omega
          obtain ⟨g1, rfl⟩ := ha1 hm1
          obtain ⟨g2, rfl⟩ := ha2 hm1
          have hq0 : fRows (qN l s t) l.length = fRows (fun i => qN l s t i + givN (rN l s t) l.length 0 i) l.length := by
            have : (fun i => qN l s t i + givN (rN l s t) l.length 0 i) = qN l s t := funext fun i => by simp [givN]
            rw [this]
          have hr0 : fRows (rN l s t) l.length = fRows (rstN (rN l s t) l.length 0) l.length := by
            have : rstN (rN l s t) l.length 0 = rN l s t := funext fun i => by simp [rstN]
            rw [this]
          rw [hq0] at hr1
          rw [hr0] at hr2
          generalize hR : rN l s t = R at *
          generalize hQ : qN l s t = Q at *
          rw [← hlf] at hL
          as_aux_lemma =>
            repeat (first | refine awp_seq ?_ | refine awp_block ?_ | refine awp_region_lit rfl ?_ | refine awp_exit ?_ | refine awp_label ?_ | refine awp_cond_f rfl (by first | rfl | assumption | exact dF (by omega)) ?_ | ((first | (show AWL _ _ _ (⟨_, .binOp .lss _ _ _ _, _, _, _, _⟩ :: _) _ _ _; refine awl_pw ?w (pv_lss rfl rfl rfl) rfl rfl ?_)); case w => first | exact wt_none rfl | exact wt_some' rfl rfl rfl rfl (by first | rfl | assumption | exact dT (by omega) | exact dF (by omega))) | refine awl_nil ?_)
            refine awp_loop (fun m st h => ∃ (n : Nat) (q1 q2 : List (List AV)), (n : Int) ≤ lf ∧ m = lf.toNat - n ∧ Given R l.length n ∧ q1 = fRows (fun i => Q i + givN R l.length n i) l.length ∧ q2 = fRows (rstN R l.length n) l.length ∧
              st = [(9, .v (.slice (some ⟨g1, 0, none⟩) l.length c)), (10, .v (.slice (some ⟨g2, 0, none⟩) l.length c')), (11, intA (lf - n))] ∧
              h = [.rw (.slice (some ⟨g1, 0, none⟩) l.length c) 3 1 q1, .rw (.slice (some ⟨g2, 0, none⟩) l.length c') 3 1 q2]) ?_ ⟨0, _, _, hL.1, rfl, hG0, hr1, hr2, (by rw [show lf - ((0 : Nat) : Int) = lf by omega]), rfl⟩ (by first | ((repeat' (first | exact True.intro | refine ⟨rfl, ?_⟩)); all_goals fail) | fail) (by solve | repeat' constructor)
            as_aux_lemma =>
              rintro m st h ⟨n, q1, q2, hn, rfl, hG, hq1, hq2, rfl, rfl⟩
              have hl1 : q1.length = l.length := by rw [hq1]; exact fRows_len _ _
              have hl2 : q2.length = l.length := by rw [hq2]; exact fRows_len _ _
              by_cases hnl : (n : Int) < lf
              case neg =>
                have en : lf.toNat = n := by omega
                repeat (first | refine awp_seq ?_ | refine awp_region_lit rfl ?_ | refine awp_exit ?_ | refine awp_ret ?_ | refine then_n ?_ | refine sco_r ?_ | refine awp_cond_f rfl (by first | rfl | assumption | exact dF (by omega)) ?_ | ((first | (show AWL _ _ _ (⟨_, .move _, _, _, _, _⟩ :: _) _ _ _; refine awl_pw ?w (pv_move rfl rfl) rfl rfl ?_) | (show AWL _ _ _ (⟨_, .assign _, _, _, _, _⟩ :: _) _ _ _; refine awl_pw ?w (pv_assign rfl rfl) rfl rfl ?_) | (show AWL _ _ _ (⟨_, .binOp .gtr _ _ _ _, _, _, _, _⟩ :: _) _ _ _; refine awl_pw ?w (pv_gtr rfl rfl rfl) rfl rfl ?_)); case w => first | exact wt_none rfl | exact wt_some' rfl rfl rfl rfl (by first | rfl | assumption | exact dT (by omega) | exact dF (by omega))) | refine awl_nil ?_)
                have hpl : partL l s t = (List.range l.length).map (fun i => Q i + givN R l.length n i) := by
                  unfold partL partN
                  rw [← hlf, en, hR, hQ]
                refine bodyQ_ghost (ghost_freeze (E := 3) (sz := 1) (n := l.length) (rows := q1) (d := 4) (fun q => [.sc (.int .i64 ((partL l s t).getD q 0))]) (by solve | repeat' constructor) rfl hl1 (by rw [hq1]; exact fRows_tree hpl)) ?_
                refine body_p (.cons rfl (.cons rfl .nil)) (.inr (.inr (.inr ⟨hm, ha, by omega, by rw [← ht']; exact hs, ?_, ?_⟩)))
                · rw [← ht', hR, ← hlf, en]; exact hG
                · rw [← ht']
                  have : (partL l s t).length = l.length := by simp [partL]
                  simp only [intsT, this]
                  rfl
              have hq2' : q2 = (rstL R l.length n).map intRow := by rw [hq2, fRows_eq]; rfl
              have hll : (rstL R l.length n).length = l.length := by simp [rstL]
              obtain ⟨mx, hmx⟩ : ∃ mx, maxL (rstL R l.length n) = mx := ⟨_, rfl⟩
              have hle := fun k (hk : k < l.length) => rst_le (r := R) (c := n) hk
              obtain ⟨kx, hkx, ekx⟩ := rst_in (r := R) n hm1
              rw [hmx] at hle ekx
              as_aux_lemma =>
                repeat (first | refine awp_seq ?_ | refine awp_block ?_ | refine awp_region_lit rfl ?_ | refine awp_skip ?_ | refine then_n ?_ | refine awp_cond_t rfl (by first | rfl | assumption | exact dT (by omega)) ?_ | ((first | (show AWL _ _ _ (⟨_, .move _, _, _, _, _⟩ :: _) _ _ _; refine awl_pw ?w (pv_move rfl rfl) rfl rfl ?_) | (show AWL _ _ _ (⟨_, .binOp .gtr _ _ _ _, _, _, _, _⟩ :: _) _ _ _; refine awl_pw ?w (pv_gtr rfl rfl rfl) rfl rfl ?_)); case w => first | exact wt_none rfl | exact wt_some' rfl rfl rfl rfl (by first | rfl | assumption | exact dT (by omega) | exact dF (by omega))) | refine awl_nil ?_)
                refine awl_hw (by first | exact wt_none rfl | exact wt_some' rfl rfl rfl rfl (by first | rfl | assumption | exact dT (by omega) | exact dF (by omega))) (st_acall T0 (smax_v (by omega) (by omega) hq2' hmx) rfl rfl rfl rfl (by first | exact callee_lit | exact callee_v | exact callee_fn) (by solve | repeat' constructor) rfl rfl (by first | ((repeat' (first | exact SubH.refl _ | apply SubH.cons | exact Pick.here | apply Pick.there)); all_goals fail) | fail) (fun _ _ => trivial) ?_)
                rintro r h ⟨rfl, rfl⟩
                simp only [List.cons_append, List.nil_append]
                repeat (first | refine awp_seq ?_ | refine awp_block ?_ | refine awp_region_lit rfl ?_ | ((first | (show AWL _ _ _ (⟨_, .move _, _, _, _, _⟩ :: _) _ _ _; refine awl_pw ?w (pv_move rfl rfl) rfl rfl ?_) | (show AWL _ _ _ (⟨_, .assign _, _, _, _, _⟩ :: _) _ _ _; refine awl_pw ?w (pv_assign rfl rfl) rfl rfl ?_) | (show AWL _ _ _ (⟨_, .call ⟨.builtin .len, _, _⟩, _, _, _, _⟩ :: _) _ _ _; refine awl_pw ?w (pv_len_v T0 rfl rfl rfl) rfl rfl ?_)); case w => first | exact wt_none rfl | exact wt_some' rfl rfl rfl rfl (by first | rfl | assumption | exact dT (by omega) | exact dF (by omega))) | refine awl_nil ?_)
                refine awp_loop (fun m st h => ∃ (j : Nat), j ≤ l.length ∧ m = l.length - j ∧ (∀ k, k < j → rstN R l.length n k ≠ mx) ∧
                  st = [(9, .v (.slice (some ⟨g1, 0, none⟩) l.length c)), (10, .v (.slice (some ⟨g2, 0, none⟩) l.length c')), (11, intA (lf - n)), (14, intA mx), (89, intA l.length), (90, intA j)] ∧
                  h = [.rw (.slice (some ⟨g1, 0, none⟩) l.length c) 3 1 q1, .rw (.slice (some ⟨g2, 0, none⟩) l.length c') 3 1 q2]) ?_ ⟨0, Nat.zero_le _, rfl, (fun k hk => absurd hk (by omega)), rfl, rfl⟩ (by first | ((repeat' (first | exact True.intro | refine ⟨rfl, ?_⟩)); all_goals fail) | fail) (by solve | repeat' constructor)
                as_aux_lemma =>
                  rintro m st h ⟨j, hj, rfl, hne, rfl, rfl⟩
                  by_cases hjt : j < l.length
                  case neg => exact absurd ekx (hne kx (by omega))
                  have ra : (q2.getD j [])[0]? = some (intA (rstN R l.length n j)) := by rw [hq2]; exact fRows_at hjt
                  have rb : (q1.getD j [])[0]? = some (intA (Q j + givN R l.length n j)) := by rw [hq1]; exact fRows_at (f := fun i => Q i + givN R l.length n i) hjt
                  by_cases hx : rstN R l.length n j = mx
                  case neg =>
                    have hdx := decide_eq_false hx
                    repeat (first | refine awp_seq ?_ | refine awp_block ?_ | refine awp_region_lit rfl ?_ | refine awp_skip ?_ | refine then_n ?_ | refine awp_cond_t rfl (by first | rfl | assumption | exact dT (by omega)) ?_ | refine awp_cond_f rfl (by first | rfl | assumption | exact dF (by omega)) ?_ | ((first | (show AWL _ _ _ (⟨_, .move _, _, _, _, _⟩ :: _) _ _ _; refine awl_pw ?w (pv_move rfl rfl) rfl rfl ?_) | (show AWL _ _ _ (⟨_, .assign _, _, _, _, _⟩ :: _) _ _ _; refine awl_pw ?w (pv_assign rfl rfl) rfl rfl ?_) | (show AWL _ _ _ (⟨_, .load _ _, _, _, _, _⟩ :: _) _ _ _; refine awl_lw ?w (lv_rp T0 rfl rfl rfl (by solve | repeat' constructor) (by first | omega | (simp; omega)) (by omega) (by first | assumption | rfl)) rfl rfl rfl ?_) | (show AWL _ _ _ (⟨_, .indexAddr _ _ _, _, _, _, _⟩ :: _) _ _ _; refine awl_pw ?w (pv_ix_own T0 rfl rfl rfl rfl (by omega) (by first | exact Int.toNat_natCast _ | rfl)) rfl rfl ?_) | (show AWL _ _ _ (⟨_, .binOp .add _ _ _ _, _, _, _, _⟩ :: _) _ _ _; refine awl_pw ?w (pv_add rfl rfl rfl (by first | assumption | exact wr64 (by omega))) rfl rfl ?_) | (show AWL _ _ _ (⟨_, .binOp .lss _ _ _ _, _, _, _, _⟩ :: _) _ _ _; refine awl_pw ?w (pv_lss rfl rfl rfl) rfl rfl ?_) | (show AWL _ _ _ (⟨_, .binOp .eql _ _ _ _, _, _, _, _⟩ :: _) _ _ _; refine awl_pw ?w (pv_eql rfl rfl rfl) rfl rfl ?_)); case w => first | exact wt_none rfl | exact wt_some' rfl rfl rfl rfl (by first | rfl | assumption | exact dT (by omega) | exact dF (by omega))) | refine awl_nil ?_)
                    refine rnd_n _ _ _ ?_ ⟨j + 1, hjt, rfl, fun k hk => ?_, rfl, rfl⟩ (by first | ((repeat' (first | exact True.intro | refine ⟨rfl, ?_⟩)); all_goals fail) | fail) (by solve | repeat' constructor)
                    · omega
                    · by_cases e : k = j
                      · subst e; exact hx
                      · exact hne k (by omega)
                  have hdx := decide_eq_true hx
                  have hb : bef R l.length j = n := step_bef hrpos hG (by omega) hjt (fun k hk => by rw [hx]; exact hle k hk) (fun k hk => by rw [hx]; exact hne k hk)
                  have hG' := step_given hG hjt hb
                  have hqj : -1000000000000 ≤ Q j + givN R l.length n j ∧ Q j + givN R l.length n j ≤ 1000000000000 := by
                    have g1 := Int.mul_nonneg (hai j hjt).1 hs'.1
                    have g2 : l.getD j 0 * s ≤ 100000 * 400000 := Int.mul_le_mul (hai j hjt).2 (by omega) hs'.1 (by decide)
                    have g3 := Int.ediv_le_self t g1
                    have g4 := Int.ediv_nonneg g1 (show 0 ≤ t by omega)
                    have g5 : Q j = l.getD j 0 * s / t := by rw [← hQ]; rfl
                    have g6 : 0 ≤ givN R l.length n j ∧ givN R l.length n j ≤ 1 := by unfold givN; split <;> omega
                    omega
                  as_aux_lemma =>
                    repeat (first | refine awp_seq ?_ | refine awp_block ?_ | refine awp_region_lit rfl ?_ | refine awp_skip ?_ | refine then_n ?_ | refine awp_cond_t rfl (by first | rfl | assumption | exact dT (by omega)) ?_ | ((first | (show AWL _ _ _ (⟨_, .move _, _, _, _, _⟩ :: _) _ _ _; refine awl_pw ?w (pv_move rfl rfl) rfl rfl ?_) | (show AWL _ _ _ (⟨_, .assign _, _, _, _, _⟩ :: _) _ _ _; refine awl_pw ?w (pv_assign rfl rfl) rfl rfl ?_) | (show AWL _ _ _ (⟨_, .load _ _, _, _, _, _⟩ :: _) _ _ _; refine awl_lw ?w (lv_rp T0 rfl rfl rfl (by solve | repeat' constructor) (by first | omega | (simp; omega)) (by omega) (by first | assumption | rfl)) rfl rfl rfl ?_) | (show AWL _ _ _ (⟨_, .indexAddr _ _ _, _, _, _, _⟩ :: _) _ _ _; refine awl_pw ?w (pv_ix_own T0 rfl rfl rfl rfl (by omega) (by first | exact Int.toNat_natCast _ | rfl)) rfl rfl ?_) | (show AWL _ _ _ (⟨_, .binOp .add _ _ _ _, _, _, _, _⟩ :: _) _ _ _; refine awl_pw ?w (pv_add rfl rfl rfl (by first | assumption | exact wr64 (by omega))) rfl rfl ?_) | (show AWL _ _ _ (⟨_, .binOp .lss _ _ _ _, _, _, _, _⟩ :: _) _ _ _; refine awl_pw ?w (pv_lss rfl rfl rfl) rfl rfl ?_) | (show AWL _ _ _ (⟨_, .binOp .eql _ _ _ _, _, _, _, _⟩ :: _) _ _ _; refine awl_pw ?w (pv_eql rfl rfl rfl) rfl rfl ?_)); case w => first | exact wt_none rfl | exact wt_some' rfl rfl rfl rfl (by first | rfl | assumption | exact dT (by omega) | exact dF (by omega))) | refine awl_nil ?_)
                    refine awl_hw (by first | exact wt_none rfl | exact wt_some' rfl rfl rfl rfl (by first | rfl | assumption | exact dT (by omega) | exact dF (by omega))) (aop_store_rp T0 rfl rfl rfl rfl rfl rfl rfl rfl (by solve | repeat' constructor) (by first | omega | (simp; omega)) (by omega) rfl trivial ?_)
                    repeat (first | refine awp_seq ?_ | refine awp_region_lit rfl ?_ | ((first | (show AWL _ _ _ (⟨_, .move _, _, _, _, _⟩ :: _) _ _ _; refine awl_pw ?w (pv_move rfl rfl) rfl rfl ?_) | (show AWL _ _ _ (⟨_, .indexAddr _ _ _, _, _, _, _⟩ :: _) _ _ _; refine awl_pw ?w (pv_ix_own T0 rfl rfl rfl rfl (by omega) (by first | exact Int.toNat_natCast _ | rfl)) rfl rfl ?_)); case w => first | exact wt_none rfl | exact wt_some' rfl rfl rfl rfl (by first | rfl | assumption | exact dT (by omega) | exact dF (by omega))) | refine awl_nil ?_)
                    refine awl_hw (by first | exact wt_none rfl | exact wt_some' rfl rfl rfl rfl (by first | rfl | assumption | exact dT (by omega) | exact dF (by omega))) (aop_store_rp T0 rfl rfl rfl rfl rfl rfl rfl rfl (by solve | repeat' constructor) (by first | omega | (simp; omega)) (by omega) rfl trivial ?_)
                    repeat (first | refine awp_seq ?_ | refine awp_region_lit rfl ?_ | refine awp_exit ?_ | refine then_x ?_ | refine blk_x ?_ | refine blk_y rfl ?_ | refine sco_x ?_ | ((first | (show AWL _ _ _ (⟨_, .move _, _, _, _, _⟩ :: _) _ _ _; refine awl_pw ?w (pv_move rfl rfl) rfl rfl ?_) | (show AWL _ _ _ (⟨_, .assign _, _, _, _, _⟩ :: _) _ _ _; refine awl_pw ?w (pv_assign rfl rfl) rfl rfl ?_) | (show AWL _ _ _ (⟨_, .binOp .sub _ _ _ _, _, _, _, _⟩ :: _) _ _ _; refine awl_pw ?w (pv_sub rfl rfl rfl (by first | assumption | exact wr64 (by omega))) rfl rfl ?_)); case w => first | exact wt_none rfl | exact wt_some' rfl rfl rfl rfl (by first | rfl | assumption | exact dT (by omega) | exact dF (by omega))) | refine awl_nil ?_)
                    simp only [cellsA]
                    have e1 : q1.set j (spA (q1.getD j []) 0 [intA (Q j + givN R l.length n j + 1)]) = fRows (fun i => Q i + givN R l.length (n + 1) i) l.length := by
                      rw [hq1]
                      refine fRows_set (f := fun i => Q i + givN R l.length n i) hjt fun k hk => ?_
                      rw [giv_step hjt hk hb]
                      by_cases e : k = j
                      · subst e; rw [if_pos rfl, if_pos rfl]; omega
                      · rw [if_neg e, if_neg e]
                    have e2 : q2.set j (spA (q2.getD j []) 0 [intA (-1)]) = fRows (rstN R l.length (n + 1)) l.length := by
                      rw [hq2]
                      exact fRows_set hjt fun k hk => rst_step hjt hk hb
                    have e3 : lf - (n : Int) - 1 = lf - ((n + 1 : Nat) : Int) := by omega
                    rw [e1, e2, e3]
                    refine rnd_n _ _ _ ?_ ⟨n + 1, _, _, by omega, rfl, hG', rfl, rfl, rfl, rfl⟩ (by first | ((repeat' (first | exact True.intro | refine ⟨rfl, ?_⟩)); all_goals fail) | fail) (by solve | repeat' constructor)
                    omega
end Go.Proofs.Ytfiacjdkdjkiiaa
