/- Lists, truths and banks copied. -/
import Derived.Test.YtfiacjdkdjkiiaaCs
namespace Go.Proofs.Ytfiacjdkdjkiiaa
open Go Go.RowKit Go.Tl
set_option linter.unusedVariables false
set_option linter.unusedSimpArgs false
set_option maxHeartbeats 2000000
attribute [local irreducible] AWP AWL AOp PV LV AWT AWE
theorem list_o (cp : Bool) (xs : List Int) (hl : xs.length ≤ 1000) : ACall Try.prog 37 [.t (intsT cp xs)] [] (fun r h' => ∃ v, r = .v v ∧ h' = [.rw v 3 1 (xs.map intRow)]) := by
  refine acall_of_awp T0 Try.func37 rfl rfl rfl ?_
  repeat (first | refine awp_seq ?_ | refine awp_region_lit rfl ?_ | (show AWL _ _ _ (⟨_, .assign _, _, _, _, _⟩ :: _) _ _ _; refine awl_pw (wt_none rfl) (pv_assign rfl rfl) rfl rfl ?_) | refine awl_nil ?_)
  refine awl_hw (wt_none rfl) (st_bsl T0 rfl rfl rfl rfl rfl (by solve | repeat' constructor) rfl rfl rfl rfl (by simp only [List.map_cons, List.map_nil, cellsA]; rfl) ?_)
  intro g
  repeat (first | (show AWL _ _ _ (⟨_, .move _, _, _, _, _⟩ :: _) _ _ _; refine awl_pw (wt_none rfl) (pv_move rfl rfl) rfl rfl ?_))
  refine awl_hw (wt_none rfl) (st_appt T0 rfl rfl rfl rfl rfl rfl rfl rfl rfl (by solve | repeat' constructor) (by intro k hk u hu; simp at hu; subst hu; rfl) (by (try simp only [List.length_nil, List.length_map, List.length_append, List.length_cons]); rfl) (by first | omega | (simp; omega)) (fun _ _ => trivial) rfl ?_)
  intro a c p
  repeat (first | refine awp_ret ?_ | (show AWL _ _ _ (⟨_, .assign _, _, _, _, _⟩ :: _) _ _ _; refine awl_pw (wt_none rfl) (pv_assign rfl rfl) rfl rfl ?_) | refine awl_nil ?_)
  refine body_r (.cons rfl .nil) (SubH.refl _) ⟨_, rfl, ?_⟩
  simp only [List.nil_append]
  rw [intRows_range]
theorem list_p (cp : Bool) (xs : List Int) (hl : xs.length ≤ 1000) : PCall Try.prog 37 [.t (intsT cp xs)] (fun r => r = .t (intsT true xs)) :=
  acall_freeze (list_o cp xs hl) (by simp) (intRows_tree xs)
theorem clone_p (cp : Bool) (xs : List Int) (hl : xs.length ≤ 1000) : PCall Try.prog 84 [.t (intsT cp xs)] (fun r => r = .t (intsT false xs)) := by
  refine acall_of_awp T0 Try.func84 rfl rfl rfl ?_
  repeat (first | refine awp_seq ?_ | refine awp_region_lit rfl ?_ | (show AWL _ _ _ (⟨_, .move _, _, _, _, _⟩ :: _) _ _ _; refine awl_pw (wt_none rfl) (pv_move rfl rfl) rfl rfl ?_) | (show AWL _ _ _ (⟨_, .assign _, _, _, _, _⟩ :: _) _ _ _; refine awl_pw (wt_none rfl) (pv_assign rfl rfl) rfl rfl ?_) | refine awl_nil ?_)
  refine awl_hw (wt_none rfl) (aop_isnil T0 rfl rfl rfl rfl rfl ?_)
  intro b hb
  repeat (first | refine then_n ?_ | refine awl_nil ?_)
  cases b
  · repeat (first | refine awp_seq ?_ | refine awp_region_lit rfl ?_ | refine awp_skip ?_ | refine awp_cond_f rfl (by first | rfl | assumption | exact dF (by omega)) ?_)
    refine awl_hw (wt_none rfl) (st_bsl T0 rfl rfl rfl rfl rfl (by solve | repeat' constructor) rfl rfl rfl rfl (by simp only [List.map_cons, List.map_nil, cellsA]; rfl) ?_)
    intro g
    repeat (first | (show AWL _ _ _ (⟨_, .move _, _, _, _, _⟩ :: _) _ _ _; refine awl_pw (wt_none rfl) (pv_move rfl rfl) rfl rfl ?_))
    refine awl_hw (wt_none rfl) (st_appt T0 rfl rfl rfl rfl rfl rfl rfl rfl rfl (by solve | repeat' constructor) (by intro k hk u hu; simp at hu; subst hu; rfl) (by (try simp only [List.length_nil, List.length_map, List.length_append, List.length_cons]); rfl) (by first | omega | (simp; omega)) (fun _ _ => trivial) rfl ?_)
    intro a c p
    repeat (first | refine awp_ret ?_ | (show AWL _ _ _ (⟨_, .assign _, _, _, _, _⟩ :: _) _ _ _; refine awl_pw (wt_none rfl) (pv_assign rfl rfl) rfl rfl ?_) | refine awl_nil ?_)
    refine bodyQ_ghost (ghost_freeze (E := 3) (sz := 1) (n := xs.length) (d := 2) (fun k => [.sc (.int .i64 (xs.getD k 0))]) (by solve | repeat' constructor) rfl (by simp) ?_) ?_
    · intro k hk
      rw [List.nil_append, intRows_range]
      exact intRows_tree xs k hk
    refine bodyQ_ghost (ghost_to (d := 2) rfl (t' := intsT false xs) (.sl (fun h => by cases h) (fun k hk => ⟨rfl, fun j x x' h1 h2 => ?_⟩))) ?_
    · rw [h1] at h2; cases h2; exact .refl _
    exact body_p (.cons rfl .nil) rfl
  · have h0 : xs.length = 0 := by rcases Nat.eq_zero_or_pos xs.length with h | h; exact h; have := hb h; cases this
    obtain rfl := List.length_eq_zero_iff.1 h0
    repeat (first | refine awp_seq ?_ | refine awp_region_lit rfl ?_ | refine awp_ret ?_ | refine then_r ?_ | refine awp_cond_t rfl (by first | rfl | assumption | exact dT (by omega)) ?_ | (show AWL _ _ _ (⟨_, .assign _, _, _, _, _⟩ :: _) _ _ _; refine awl_pw (wt_none rfl) (pv_assign rfl rfl) rfl rfl ?_) | refine awl_nil ?_)
    refine bodyQ_ghost (ghost_none (d := 2) (t := intsT false []) rfl (fun w S => none_rel)) ?_
    exact body_p (.cons rfl .nil) rfl
end Go.Proofs.Ytfiacjdkdjkiiaa
