/- Deliveries: IsDelivery, Equal, ProveDeliveries, list: their walks. -/
import Derived.Test.YtilhflfbbfeakaaRq
namespace Go.Proofs.Ytilhflfbbfeakaa
open Go Go.RowKit Go.Tl
set_option linter.unusedVariables false
set_option linter.unusedSimpArgs false
set_option maxRecDepth 100000
set_option maxHeartbeats 4000000
attribute [local irreducible] AWP AWL AOp PV LV AWT AWE
theorem intRows_range (l : List Int) : ((List.range l.length).map fun k => List.map AV.ofTr [Tr.sc (.int .i64 (l.getD k 0))]) = l.map intRow := by
  refine List.ext_getElem (by simp) fun k h1 h2 => ?_
  simp at h1 h2
  simp [List.getD_eq_getElem?_getD, h1, AV.ofTr, intRow]
theorem list_p (cp : Bool) (l : List Int) (hl : l.length ≤ 1000) : PCall Try.prog 47 [.t (intsT cp l)] (fun r => r = .t (intsT true l)) := by
  refine acall_of_awp T0 Try.func47 rfl rfl rfl ?_
  repeat (first | refine awp_seq ?_ | refine awp_region_lit rfl ?_ | ((first | (show AWL _ _ _ (⟨_, .move _, _, _, _, _⟩ :: _) _ _ _; refine awl_pw ?w (pv_move rfl rfl) rfl rfl ?_) | (show AWL _ _ _ (⟨_, .assign _, _, _, _, _⟩ :: _) _ _ _; refine awl_pw ?w (pv_assign rfl rfl) rfl rfl ?_)); case w => first | exact wt_none rfl | exact wt_some' rfl rfl rfl rfl (by first | rfl | assumption | exact dT (by omega) | exact dF (by omega))) | refine awl_nil ?_)
  refine awl_ghost (ghost_nilrow 3 1) ?_
  refine awl_hw (by first | exact wt_none rfl | exact wt_some' rfl rfl rfl rfl (by first | rfl | assumption | exact dT (by omega) | exact dF (by omega))) (st_appt T0 rfl rfl rfl rfl rfl rfl rfl rfl rfl (by solve | repeat' constructor) (by intro k hk u hu; simp at hu; subst hu; rfl) (by (try simp only [List.length_nil, List.length_map, List.length_append, List.length_cons]); rfl) (by first | omega | (simp; omega)) (fun _ _ => trivial) rfl ?_)
  intro a c p
  simp only [List.nil_append, Nat.zero_add]
  rw [intRows_range]
  refine awl_ghost (ghost_freeze (E := 3) (sz := 1) (n := l.length) (rows := l.map intRow) (d := 4) (fun q => [.sc (.int .i64 (l.getD q 0))]) (by solve | repeat' constructor) rfl (by simp) (intRows_tree _)) ?_
  repeat (first | refine awp_ret ?_ | ((first | (show AWL _ _ _ (⟨_, .assign _, _, _, _, _⟩ :: _) _ _ _; refine awl_pw ?w (pv_assign rfl rfl) rfl rfl ?_)); case w => first | exact wt_none rfl | exact wt_some' rfl rfl rfl rfl (by first | rfl | assumption | exact dT (by omega) | exact dF (by omega))) | refine awl_nil ?_)
  exact body_p (.cons rfl .nil) rfl
section
variable {b : BookD} {l : List Int} {g3 g4 : Nat} {cp c1 : Bool} {many ab : Int}
end
end Go.Proofs.Ytilhflfbbfeakaa

