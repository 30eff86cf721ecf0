/- Explain, ProveTruth: walks. -/
import Derived.Test.YteaoclpikdmkiaaOc
import Derived.Test.YteaoclpikdmkiaaTk
import Derived.Test.YteaoclpikdmkiaaTlw
import Derived.Test.YteaoclpikdmkiaaTy
import Derived.Test.YteaoclpikdmkiaaTz
import Derived.Test.YteaoclpikdmkiaaTv
namespace Go.Proofs.Yteaoclpikdmkiaa
open Go Go.RowKit Go.Tl
set_option linter.unusedVariables false
set_option linter.unusedSimpArgs false
set_option maxRecDepth 100000
set_option maxHeartbeats 4000000
/-- what is recorded, without some records -/
abbrev recF (l : List SaleD) (out : List Int) : SaleD → Int := fun s => recN l out s l.length
/-- what Explain returns -/
noncomputable def explainR (p : PostD) (l : List SaleD) : List Int × Int :=
  if recdN p l ≠ 0 then ([], recdN p l) else if ((leaves p).any fun x => explB (recF l []) x.1) = true then (lastM (uptoL (fun x => explB (recF l []) x.1) (leaves p)), 0) else ([], 11)
/-- what ProveTruth returns -/
noncomputable def proveB (p : PostD) (t : List Int) (l : List SaleD) : Bool := decide (recdN p l = 0) && (truthB p t && explB (recF l []) (playT p t))
theorem recd_rng (p : PostD) (l : List SaleD) : 0 ≤ recdN p l ∧ recdN p l ≤ 3 := by
  have := fault_rng p
  unfold recdN
  split
  · omega
  · split <;> omega
theorem recd_ok {p : PostD} {l : List SaleD} (h : recdN p l = 0) : faultN p = 0 ∧ l.length ≤ 6 := by
  unfold recdN at h
  split at h
  · rename_i h1; exact absurd h h1
  · split at h
    · cases h
    · rename_i h1 h2
      exact ⟨by simpa using h1, by omega⟩
theorem upto_last {α : Type} {q : α → Bool} : ∀ {l : List α}, l.any q = true → ∃ x ∈ l, q x = true ∧ (uptoL q l).getLast? = some x
  | [], h => by cases h
  | a :: l, h => by
    simp only [uptoL]
    by_cases c : q a = true
    · rw [if_pos c]; exact ⟨a, List.mem_cons_self, c, rfl⟩
    · rw [if_neg c]
      simp only [List.any_cons, Bool.or_eq_true] at h
      obtain ⟨x, hx, hq, hl⟩ := upto_last (h.resolve_left c)
      refine ⟨x, List.mem_cons_of_mem _ hx, hq, ?_⟩
      rw [List.getLast?_cons, hl]
      rfl
theorem last_leaf {p : PostD} {q : Leaf → Bool} (h : (leaves p).any q = true) : ∃ x ∈ leaves p, q x = true ∧ lastM (uptoL q (leaves p)) = x.2 := by
  obtain ⟨x, hx, hq, hl⟩ := upto_last h
  exact ⟨x, hx, hq, by unfold lastM; rw [hl]; rfl⟩
theorem last_len {p : PostD} (hv : VPost p) {q : Leaf → Bool} (h : (leaves p).any q = true) : (lastM (uptoL q (leaves p))).length ≤ 1000 := by
  obtain ⟨x, hx, hq, hl⟩ := last_leaf h
  rw [hl, (truth_iff.1 (leaves_sound hv hx).1).1]
  have := hv.len
  omega
attribute [local irreducible] AWP AWL AOp PV LV AWT AWE
theorem counted0_p (c : Bool) (l : List SaleD) (hl : l.length ≤ 1000) : ACall Try.prog 73 [.t (salesT c l), .v (.slice none 0 0)] [] (fun r h' => ∃ g, r = .v (.map (some g)) ∧ h' = [recM g (recF l [])]) :=
  acall_args (counted_p c true l [] hl (by simp)) (.cons (.refl _) (.cons .nil .nil))
section
variable {g2 : Nat} {cp c : Bool} {p : PostD} {l : List SaleD} {t : List Int} {u4 u5 : AV}
theorem od_4 (hv : VPost p) (hl : l.length ≤ 1000) {ops : Array Oper} (h : regF Try.f36 4 = some ops) :
    AWP Try.prog Try.f36.ntmps none (.region 4 ops true) (cutQ (fun s h => s = [(4, u4), (5, u5), (7, .t (intsT true (lastM (uptoL (fun x => explB (recF l []) x.1) (leaves p))))), (8, boolA ((leaves p).any fun x => explB (recF l []) x.1))] ∧ h = []))
      [(1, .t (salesT c l)), (2, .v (ptrV g2)), (4, u4), (5, u5)] [.cl g2 34 [.t (ordsT cp p.ords)]] := by
  cases h
  refine awp_tree T0 [(0, 1), (1, 0), (2, 2), (3, 3), (4, 0), (5, 0), (6, 0), (7, 0), (8, 0)] (.op 0 1 (.op 1 0 (.op 2 2 (.op 3 3 (.op 4 0 (.op 5 0 (.op 6 0 (.op 7 0 (.op 8 0 .stop))))))))) [.cl g2 _ _] rfl (by kernel_rfl) (by solve | repeat' constructor) ?_
  refine awt_lo rfl (wt_none rfl) (lv_cla T0 rfl rfl rfl (by solve | repeat' constructor) rfl) rfl rfl rfl ?_
  refine awt_po rfl (wt_none rfl) (pv_move rfl rfl) rfl rfl ?_
  refine awt_h (hm := _) rfl (wt_none rfl) ?sub rfl (st_acall T0 (counted0_p c l hl) rfl rfl rfl rfl (by first | exact callee_lit | exact callee_v | exact callee_fn | assumption) (by solve | repeat' constructor) (by first | rfl | assumption) rfl (by first | ((repeat' (first | exact SubH.refl _ | apply SubH.cons | exact Pick.here | apply Pick.there)); all_goals fail) | fail) (fun b hb => hb) ?_)
  case sub => exact (by solve | repeat' constructor)
  (rintro r h' ⟨g, rfl, rfl⟩; first | refine awe_ghost (ghost_freezeMap (κ := SaleD) (kv := saleV) (z := intA 0) (f := fun s => intA (recF l [] s)) (by solve | repeat' constructor)) ?_ | refine awt_ghost (ghost_freezeMap (κ := SaleD) (kv := saleV) (z := intA 0) (f := fun s => intA (recF l [] s)) (by solve | repeat' constructor)) ?_)
  refine awt_s (md := fun _ => True) rfl (wt_none rfl) (st_acall T0 (truthOf_p cp p hv g (recF l [])) rfl rfl rfl rfl (by first | exact callee_lit | exact callee_v | exact callee_fn | assumption) (by solve | repeat' constructor) (by first | rfl | assumption) rfl (by first | ((repeat' (first | exact SubH.refl _ | apply SubH.cons | exact Pick.here | apply Pick.there)); all_goals fail) | fail) (fun _ _ => trivial) ?_)
  rintro r h' ⟨rfl, rfl⟩
  refine awe_p rfl (wt_none rfl) (pv_move rfl rfl) rfl rfl ?_
  refine awe_p rfl (wt_none rfl) (pv_extract rfl rfl rfl) rfl rfl ?_
  refine awe_p rfl (wt_none rfl) (pv_extract rfl rfl rfl) rfl rfl ?_
  refine awe_p rfl (wt_none rfl) (pv_assign rfl rfl) rfl rfl ?_
  refine awe_p rfl (wt_none rfl) (pv_assign rfl rfl) rfl rfl ?_
  refine awe_end ?_
  exact cut_n ⟨rfl, rfl⟩ (by first | ((repeat' (first | exact True.intro | refine ⟨rfl, ?_⟩)); all_goals fail) | fail) (by solve | repeat' constructor)
end
theorem Explain_p (cp c : Bool) (p : PostD) (l : List SaleD) (hl : p.ords.length ≤ 1000) (hll : l.length ≤ 1000) : PCall Try.prog 36 [postA cp p, .t (salesT c l)] (fun r => r = .tup [.t (intsT true (explainR p l).1), intA (explainR p l).2]) := by
  refine acall_of_awp T0 Try.func36 rfl rfl rfl ?_
  have hrr := recd_rng p l
  unfold explainR
  repeat (first | refine awp_seq ?_ | refine awp_region_lit rfl ?_)
  refine awl_hw (by first | exact wt_none rfl | exact wt_some' rfl rfl rfl rfl (by first | rfl | assumption | exact dT (by omega) | exact dF (by omega))) (st_box rfl rfl (by first | rfl | assumption) (by first | assumption | (simp only [cellsA]; rfl)) rfl rfl ?_)
  intro g2
  repeat (first | refine awp_seq ?_ | refine awp_region_lit rfl ?_ | ((first | (show AWL _ _ _ (⟨_, .move _, _, _, _, _⟩ :: _) _ _ _; refine awl_pw ?wtq (pv_move rfl rfl) rfl rfl ?_) | (show AWL _ _ _ (⟨_, .assign _, _, _, _, _⟩ :: _) _ _ _; refine awl_pw ?wtq (pv_assign rfl rfl) rfl rfl ?_) | (show AWL _ _ _ (⟨_, .load _ _, _, _, _, _⟩ :: _) _ _ _; refine awl_lw ?wtq (lv_cla T0 rfl rfl rfl (by solve | repeat' constructor) rfl) rfl rfl rfl ?_)); case wtq => first | exact wt_none rfl | exact wt_some' rfl rfl rfl rfl (by first | rfl | assumption | exact dT (by omega) | exact dF (by omega))) | refine awl_nil ?_)
  refine awl_hw (by first | exact wt_none rfl | exact wt_some' rfl rfl rfl rfl (by first | rfl | assumption | exact dT (by omega) | exact dF (by omega))) (st_call T0 (recorded_p cp c p l hl hll) rfl rfl rfl rfl (by first | exact callee_lit | exact callee_v | exact callee_fn | assumption) (by solve | repeat' constructor) (by first | rfl | assumption) rfl ?_)
  rintro _ rfl
  by_cases h1 : recdN p l = 0
  case neg =>
    have d1 : decide (recdN p l ≠ 0) = true := decide_eq_true h1
    rw [if_pos h1]
    repeat (first | refine awp_seq ?_ | refine awp_region_lit rfl ?_ | refine awp_ret ?_ | refine then_n ?_ | refine then_r ?_ | refine awp_cond_t rfl (by first | rfl | assumption | exact dT (by omega)) ?_ | ((first | (show AWL _ _ _ (⟨_, .move _, _, _, _, _⟩ :: _) _ _ _; refine awl_pw ?wtq (pv_move rfl rfl) rfl rfl ?_) | (show AWL _ _ _ (⟨_, .assign _, _, _, _, _⟩ :: _) _ _ _; refine awl_pw ?wtq (pv_assign rfl rfl) rfl rfl ?_) | (show AWL _ _ _ (⟨_, .binOp .neq _ _ _ _, _, _, _, _⟩ :: _) _ _ _; refine awl_pw ?wtq (pv_neq rfl rfl rfl) rfl rfl ?_)); case wtq => first | exact wt_none rfl | exact wt_some' rfl rfl rfl rfl (by first | rfl | assumption | exact dT (by omega) | exact dF (by omega))) | refine awl_nil ?_)
    refine bodyQ_ghost (ghost_none (d := 4) (t := intsT true []) rfl nil_tree) ?_
    exact body_p (.cons rfl (.cons rfl .nil)) rfl
  have d1 : decide (recdN p l ≠ 0) = false := decide_eq_false (fun h => h h1)
  rw [if_neg (fun h => h h1)]
  obtain ⟨hf, hl6⟩ := recd_ok h1
  have hv := vpost hf
  repeat (first | refine awp_seq ?_ | refine awp_region_lit rfl ?_ | refine awp_skip ?_ | refine then_n ?_ | refine awp_cond_f rfl (by first | rfl | assumption | exact dF (by omega)) ?_ | ((first | (show AWL _ _ _ (⟨_, .move _, _, _, _, _⟩ :: _) _ _ _; refine awl_pw ?wtq (pv_move rfl rfl) rfl rfl ?_) | (show AWL _ _ _ (⟨_, .assign _, _, _, _, _⟩ :: _) _ _ _; refine awl_pw ?wtq (pv_assign rfl rfl) rfl rfl ?_) | (show AWL _ _ _ (⟨_, .binOp .neq _ _ _ _, _, _, _, _⟩ :: _) _ _ _; refine awl_pw ?wtq (pv_neq rfl rfl rfl) rfl rfl ?_)); case wtq => first | exact wt_none rfl | exact wt_some' rfl rfl rfl rfl (by first | rfl | assumption | exact dT (by omega) | exact dF (by omega))) | refine awl_nil ?_)
  refine awp_cut _ (awp_weak (by first | ((repeat' (first | exact True.intro | refine ⟨rfl, ?_⟩)); all_goals fail) | fail) (by solve | repeat' constructor) (od_4 (g2 := g2) (cp := cp) (c := c) (p := p) (l := l) (u4 := .v (.slice none 0 0)) (u5 := intA 0) hv hll rfl)) ?_
  rintro s h ⟨rfl, rfl⟩
  cases hb : (leaves p).any fun x => explB (recF l []) x.1
  · rw [if_neg (by decide)]
    repeat (first | refine awp_seq ?_ | refine awp_region_lit rfl ?_ | refine awp_ret ?_ | refine then_n ?_ | refine then_r ?_ | refine awp_cond_t rfl (by first | rfl | assumption | exact dT (by omega)) ?_ | ((first | (show AWL _ _ _ (⟨_, .move _, _, _, _, _⟩ :: _) _ _ _; refine awl_pw ?wtq (pv_move rfl rfl) rfl rfl ?_) | (show AWL _ _ _ (⟨_, .assign _, _, _, _, _⟩ :: _) _ _ _; refine awl_pw ?wtq (pv_assign rfl rfl) rfl rfl ?_) | (show AWL _ _ _ (⟨_, .unOp .not _ _, _, _, _, _⟩ :: _) _ _ _; refine awl_pw ?wtq (pv_not rfl rfl) rfl rfl ?_)); case wtq => first | exact wt_none rfl | exact wt_some' rfl rfl rfl rfl (by first | rfl | assumption | exact dT (by omega) | exact dF (by omega))) | refine awl_nil ?_)
    refine bodyQ_ghost (ghost_none (d := 4) (t := intsT true []) rfl nil_tree) ?_
    exact body_p (.cons rfl (.cons rfl .nil)) rfl
  · rw [if_pos rfl]
    have hlen : (lastM (uptoL (fun x => explB (recF l []) x.1) (leaves p))).length ≤ 1000 := last_len hv hb
    generalize lastM (uptoL (fun x => explB (recF l []) x.1) (leaves p)) = t at *
    repeat (first | refine awp_seq ?_ | refine awp_region_lit rfl ?_ | refine awp_skip ?_ | refine then_n ?_ | refine awp_cond_f rfl (by first | rfl | assumption | exact dF (by omega)) ?_ | ((first | (show AWL _ _ _ (⟨_, .move _, _, _, _, _⟩ :: _) _ _ _; refine awl_pw ?wtq (pv_move rfl rfl) rfl rfl ?_) | (show AWL _ _ _ (⟨_, .unOp .not _ _, _, _, _, _⟩ :: _) _ _ _; refine awl_pw ?wtq (pv_not rfl rfl) rfl rfl ?_)); case wtq => first | exact wt_none rfl | exact wt_some' rfl rfl rfl rfl (by first | rfl | assumption | exact dT (by omega) | exact dF (by omega))) | refine awl_nil ?_)
    refine awl_hw (by first | exact wt_none rfl | exact wt_some' rfl rfl rfl rfl (by first | rfl | assumption | exact dT (by omega) | exact dF (by omega))) (st_acall T0 (iclone_o true t hlen) rfl rfl rfl rfl (by first | exact callee_lit | exact callee_v | exact callee_fn | assumption) (by solve | repeat' constructor) (by first | rfl | assumption) rfl (by first | ((repeat' (first | exact SubH.refl _ | apply SubH.cons | exact Pick.here | apply Pick.there)); all_goals fail) | fail) (fun _ _ => trivial) ?_)
    rintro r h ⟨a, cc, rfl, rfl⟩
    simp only [List.cons_append, List.nil_append]
    repeat (first | refine awp_ret ?_ | ((first | (show AWL _ _ _ (⟨_, .assign _, _, _, _, _⟩ :: _) _ _ _; refine awl_pw ?wtq (pv_assign rfl rfl) rfl rfl ?_)); case wtq => first | exact wt_none rfl | exact wt_some' rfl rfl rfl rfl (by first | rfl | assumption | exact dT (by omega) | exact dF (by omega))) | refine awl_nil ?_)
    refine bodyQ_ghost (ghost_freeze (E := 3) (sz := 1) (n := t.length) (rows := t.map intRow) (d := 4) (fun q => [.sc (.int .i64 (t.getD q 0))]) (by solve | repeat' constructor) rfl (List.length_map _) (intRows_tree t)) ?_
    exact body_p (.cons rfl (.cons rfl .nil)) rfl
section
variable {g3 : Nat} {cp ct c : Bool} {p : PostD} {l : List SaleD} {t : List Int} {u6 : AV}
theorem oe_1a (hl : p.ords.length ≤ 1000) (hll : l.length ≤ 1000) (h1 : recdN p l ≠ 0) {ops : Array Oper} (h : regF Try.f43 1 = some ops) :
    AWP Try.prog Try.f43.ntmps none (.region 1 ops true) (cutQ (fun s h => s = [(6, boolA false)] ∧ h = []))
      [(1, .t (intsT ct t)), (2, .t (salesT c l)), (3, .v (ptrV g3)), (6, u6)] [.cl g3 34 [.t (ordsT cp p.ords)]] := by
  cases h
  have d1 := decide_eq_false h1
  refine awp_treeN T0 [(0, 1), (1, 0), (2, 2), (3, 0), (4, 0), (5, 1), (6, 0), (7, 2), (8, 0), (9, 0), (10, 0), (12, 1), (13, 0), (11, 2), (14, 3), (15, 3), (16, 0), (17, 0)] (.op 0 1 (.op 1 0 (.op 2 2 (.op 3 0 (.op 4 0 (.op 5 1 (.op 6 0 (.op 7 2 (.op 8 0 (.op 9 0 (.op 10 0 (.op 12 1 (.op 13 0 (.op 11 2 (.op 14 3 (.op 15 3 (.op 16 0 (.op 17 0 .stop)))))))))))))))))) [.cl g3 _ _] rfl (by kernel_rfl) (by solve | repeat' constructor) ?_
  refine awt_lo rfl (wt_none rfl) (lv_cla T0 rfl rfl rfl (by solve | repeat' constructor) rfl) rfl rfl rfl ?_
  refine awt_po rfl (wt_none rfl) (pv_move rfl rfl) rfl rfl ?_
  refine awt_h (hm := []) rfl (wt_none rfl) (by solve | repeat' constructor) rfl (st_call T0 (recorded_p cp c p l hl hll) rfl rfl rfl rfl (by first | exact callee_lit | exact callee_v | exact callee_fn | assumption) (by solve | repeat' constructor) (by first | rfl | assumption) rfl ?_)
  rintro _ rfl
  refine awt_n1 rfl (wt_none rfl) (pv_eql rfl rfl rfl) rfl rfl rfl ?_
  refine awt_n1 rfl (wt_none rfl) (pv_move rfl rfl) rfl rfl rfl ?_
  refine awt_sk1 rfl (wf_some rfl rfl rfl rfl (by first | rfl | assumption | exact dT (by omega) | exact dF (by omega))) rfl rfl (fun _ _ h => h) rfl ?_
  refine awt_sk0 rfl (wf_some rfl rfl rfl rfl (by first | rfl | assumption | exact dT (by omega) | exact dF (by omega))) rfl rfl (fun _ _ h => h) rfl ?_
  refine awt_sk2 rfl (wf_some rfl rfl rfl rfl (by first | rfl | assumption | exact dT (by omega) | exact dF (by omega))) rfl rfl (fun _ _ h => h) rfl ?_
  refine awt_n1 rfl (wt_none rfl) (pv_pick_f rfl rfl (by first | rfl | assumption | exact dT (by omega) | exact dF (by omega)) rfl) rfl rfl rfl ?_
  refine awt_n1 rfl (wt_none rfl) (pv_move rfl rfl) rfl rfl rfl ?_
  refine awt_sk0 rfl (wf_some rfl rfl rfl rfl (by first | rfl | assumption | exact dT (by omega) | exact dF (by omega))) rfl rfl (fun _ _ h => h) rfl ?_
  refine awt_sk1 rfl (wf_some rfl rfl rfl rfl (by first | rfl | assumption | exact dT (by omega) | exact dF (by omega))) rfl rfl (fun _ _ h => h) rfl ?_
  refine awt_sk0 rfl (wf_some rfl rfl rfl rfl (by first | rfl | assumption | exact dT (by omega) | exact dF (by omega))) rfl rfl (fun _ _ h => h) rfl ?_
  refine awt_sk2 rfl (wf_some rfl rfl rfl rfl (by first | rfl | assumption | exact dT (by omega) | exact dF (by omega))) rfl rfl (fun _ _ h => h) rfl ?_
  refine awt_sk3 rfl (wf_some rfl rfl rfl rfl (by first | rfl | assumption | exact dT (by omega) | exact dF (by omega))) rfl rfl ?_
  refine awe_sk3 rfl (wf_some rfl rfl rfl rfl (by first | rfl | assumption | exact dT (by omega) | exact dF (by omega))) rfl rfl ?_
  first
    | refine awe_p rfl (wt_none rfl) (pv_pick_t rfl rfl (by first | rfl | assumption | exact dT (by omega) | exact dF (by omega)) rfl) rfl rfl ?_
    | refine awe_p rfl (wt_none rfl) (pv_pick_f rfl rfl (by first | rfl | assumption | exact dT (by omega) | exact dF (by omega)) rfl) rfl rfl ?_
  refine awe_p rfl (wt_none rfl) (pv_assign rfl rfl) rfl rfl ?_
  refine awe_end ?_
  exact cut_n ⟨rfl, rfl⟩ (by first | ((repeat' (first | exact True.intro | refine ⟨rfl, ?_⟩)); all_goals fail) | fail) (by solve | repeat' constructor)
theorem oe_1b (hl : p.ords.length ≤ 1000) (hll : l.length ≤ 1000) (htl : t.length ≤ 1000) (h1 : recdN p l = 0) (h2 : truthB p t = false) {ops : Array Oper} (h : regF Try.f43 1 = some ops) :
    AWP Try.prog Try.f43.ntmps none (.region 1 ops true) (cutQ (fun s h => s = [(6, boolA false)] ∧ h = []))
      [(1, .t (intsT ct t)), (2, .t (salesT c l)), (3, .v (ptrV g3)), (6, u6)] [.cl g3 34 [.t (ordsT cp p.ords)]] := by
  cases h
  have hC := ptruth_p cp ct p t hl htl
  rw [h2] at hC
  have d1 := decide_eq_true h1
  refine awp_treeN T0 [(0, 1), (1, 0), (2, 2), (3, 0), (4, 0), (5, 1), (6, 0), (7, 2), (8, 0), (9, 0), (10, 0), (12, 1), (13, 0), (11, 2), (14, 3), (15, 3), (16, 0), (17, 0)] (.op 0 1 (.op 1 0 (.op 2 2 (.op 3 0 (.op 4 0 (.op 5 1 (.op 6 0 (.op 7 2 (.op 8 0 (.op 9 0 (.op 10 0 (.op 12 1 (.op 13 0 (.op 11 2 (.op 14 3 (.op 15 3 (.op 16 0 (.op 17 0 .stop)))))))))))))))))) [.cl g3 _ _] rfl (by kernel_rfl) (by solve | repeat' constructor) ?_
  refine awt_lo rfl (wt_none rfl) (lv_cla T0 rfl rfl rfl (by solve | repeat' constructor) rfl) rfl rfl rfl ?_
  refine awt_po rfl (wt_none rfl) (pv_move rfl rfl) rfl rfl ?_
  refine awt_h (hm := []) rfl (wt_none rfl) (by solve | repeat' constructor) rfl (st_call T0 (recorded_p cp c p l hl hll) rfl rfl rfl rfl (by first | exact callee_lit | exact callee_v | exact callee_fn | assumption) (by solve | repeat' constructor) (by first | rfl | assumption) rfl ?_)
  rintro _ rfl
  refine awt_n1 rfl (wt_none rfl) (pv_eql rfl rfl rfl) rfl rfl rfl ?_
  refine awt_n1 rfl (wt_none rfl) (pv_move rfl rfl) rfl rfl rfl ?_
  refine awt_lo rfl (wt_some' rfl rfl rfl rfl (by first | rfl | assumption | exact dT (by omega) | exact dF (by omega))) (lv_cla T0 rfl rfl rfl (by solve | repeat' constructor) rfl) rfl rfl rfl ?_
  refine awt_po rfl (wt_some' rfl rfl rfl rfl (by first | rfl | assumption | exact dT (by omega) | exact dF (by omega))) (pv_move rfl rfl) rfl rfl ?_
  refine awt_h (hm := []) rfl (wt_some' rfl rfl rfl rfl (by first | rfl | assumption | exact dT (by omega) | exact dF (by omega))) (by solve | repeat' constructor) rfl (st_call T0 (hC) rfl rfl rfl rfl (by first | exact callee_lit | exact callee_v | exact callee_fn | assumption) (by solve | repeat' constructor) (by first | rfl | assumption) rfl ?_)
  rintro _ rfl
  refine awt_n1 rfl (wt_none rfl) (pv_pick_t rfl rfl (by first | rfl | assumption | exact dT (by omega) | exact dF (by omega)) rfl) rfl rfl rfl ?_
  refine awt_n1 rfl (wt_none rfl) (pv_move rfl rfl) rfl rfl rfl ?_
  refine awt_sk0 rfl (wf_some rfl rfl rfl rfl (by first | rfl | assumption | exact dT (by omega) | exact dF (by omega))) rfl rfl (fun _ _ h => h) rfl ?_
  refine awt_sk1 rfl (wf_some rfl rfl rfl rfl (by first | rfl | assumption | exact dT (by omega) | exact dF (by omega))) rfl rfl (fun _ _ h => h) rfl ?_
  refine awt_sk0 rfl (wf_some rfl rfl rfl rfl (by first | rfl | assumption | exact dT (by omega) | exact dF (by omega))) rfl rfl (fun _ _ h => h) rfl ?_
  refine awt_sk2 rfl (wf_some rfl rfl rfl rfl (by first | rfl | assumption | exact dT (by omega) | exact dF (by omega))) rfl rfl (fun _ _ h => h) rfl ?_
  refine awt_sk3 rfl (wf_some rfl rfl rfl rfl (by first | rfl | assumption | exact dT (by omega) | exact dF (by omega))) rfl rfl ?_
  refine awe_sk3 rfl (wf_some rfl rfl rfl rfl (by first | rfl | assumption | exact dT (by omega) | exact dF (by omega))) rfl rfl ?_
  first
    | refine awe_p rfl (wt_none rfl) (pv_pick_t rfl rfl (by first | rfl | assumption | exact dT (by omega) | exact dF (by omega)) rfl) rfl rfl ?_
    | refine awe_p rfl (wt_none rfl) (pv_pick_f rfl rfl (by first | rfl | assumption | exact dT (by omega) | exact dF (by omega)) rfl) rfl rfl ?_
  refine awe_p rfl (wt_none rfl) (pv_assign rfl rfl) rfl rfl ?_
  refine awe_end ?_
  exact cut_n ⟨rfl, rfl⟩ (by first | ((repeat' (first | exact True.intro | refine ⟨rfl, ?_⟩)); all_goals fail) | fail) (by solve | repeat' constructor)
theorem oe_1c (hl : p.ords.length ≤ 1000) (hll : l.length ≤ 1000) (htl : t.length ≤ 1000) (h1 : recdN p l = 0) (hv : VPost p) (h2 : truthB p t = true) {ops : Array Oper} (h : regF Try.f43 1 = some ops) :
    AWP Try.prog Try.f43.ntmps none (.region 1 ops true) (cutQ (fun s h => s = [(6, boolA (explB (recF l []) (playT p t)))] ∧ h = []))
      [(1, .t (intsT ct t)), (2, .t (salesT c l)), (3, .v (ptrV g3)), (6, u6)] [.cl g3 34 [.t (ordsT cp p.ords)]] := by
  cases h
  have hC := ptruth_p cp ct p t hl htl
  rw [h2] at hC
  have hpl := play_len hv h2
  have d1 := decide_eq_true h1
  refine awp_treeN T0 [(0, 1), (1, 0), (2, 2), (3, 0), (4, 0), (5, 1), (6, 0), (7, 2), (8, 0), (9, 0), (10, 0), (12, 1), (13, 0), (11, 2), (14, 3), (15, 3), (16, 0), (17, 0)] (.op 0 1 (.op 1 0 (.op 2 2 (.op 3 0 (.op 4 0 (.op 5 1 (.op 6 0 (.op 7 2 (.op 8 0 (.op 9 0 (.op 10 0 (.op 12 1 (.op 13 0 (.op 11 2 (.op 14 3 (.op 15 3 (.op 16 0 (.op 17 0 .stop)))))))))))))))))) [.cl g3 _ _] rfl (by kernel_rfl) (by solve | repeat' constructor) ?_
  refine awt_lo rfl (wt_none rfl) (lv_cla T0 rfl rfl rfl (by solve | repeat' constructor) rfl) rfl rfl rfl ?_
  refine awt_po rfl (wt_none rfl) (pv_move rfl rfl) rfl rfl ?_
  refine awt_h (hm := []) rfl (wt_none rfl) (by solve | repeat' constructor) rfl (st_call T0 (recorded_p cp c p l hl hll) rfl rfl rfl rfl (by first | exact callee_lit | exact callee_v | exact callee_fn | assumption) (by solve | repeat' constructor) (by first | rfl | assumption) rfl ?_)
  rintro _ rfl
  refine awt_n1 rfl (wt_none rfl) (pv_eql rfl rfl rfl) rfl rfl rfl ?_
  refine awt_n1 rfl (wt_none rfl) (pv_move rfl rfl) rfl rfl rfl ?_
  refine awt_lo rfl (wt_some' rfl rfl rfl rfl (by first | rfl | assumption | exact dT (by omega) | exact dF (by omega))) (lv_cla T0 rfl rfl rfl (by solve | repeat' constructor) rfl) rfl rfl rfl ?_
  refine awt_po rfl (wt_some' rfl rfl rfl rfl (by first | rfl | assumption | exact dT (by omega) | exact dF (by omega))) (pv_move rfl rfl) rfl rfl ?_
  refine awt_h (hm := []) rfl (wt_some' rfl rfl rfl rfl (by first | rfl | assumption | exact dT (by omega) | exact dF (by omega))) (by solve | repeat' constructor) rfl (st_call T0 (hC) rfl rfl rfl rfl (by first | exact callee_lit | exact callee_v | exact callee_fn | assumption) (by solve | repeat' constructor) (by first | rfl | assumption) rfl ?_)
  rintro _ rfl
  refine awt_n1 rfl (wt_none rfl) (pv_pick_t rfl rfl (by first | rfl | assumption | exact dT (by omega) | exact dF (by omega)) rfl) rfl rfl rfl ?_
  refine awt_n1 rfl (wt_none rfl) (pv_move rfl rfl) rfl rfl rfl ?_
  refine awt_po rfl (wt_some' rfl rfl rfl rfl (by first | rfl | assumption | exact dT (by omega) | exact dF (by omega))) (pv_move rfl rfl) rfl rfl ?_
  refine awt_lo rfl (wt_some' rfl rfl rfl rfl (by first | rfl | assumption | exact dT (by omega) | exact dF (by omega))) (lv_cla T0 rfl rfl rfl (by solve | repeat' constructor) rfl) rfl rfl rfl ?_
  refine awt_po rfl (wt_some' rfl rfl rfl rfl (by first | rfl | assumption | exact dT (by omega) | exact dF (by omega))) (pv_move rfl rfl) rfl rfl ?_
  refine awt_h (hm := _) rfl (wt_some' rfl rfl rfl rfl (by first | rfl | assumption | exact dT (by omega) | exact dF (by omega))) ?sub rfl (st_acall T0 (counted0_p c l hll) rfl rfl rfl rfl (by first | exact callee_lit | exact callee_v | exact callee_fn | assumption) (by solve | repeat' constructor) (by first | rfl | assumption) rfl (by first | ((repeat' (first | exact SubH.refl _ | apply SubH.cons | exact Pick.here | apply Pick.there)); all_goals fail) | fail) (fun b hb => hb) ?_)
  case sub => exact (by solve | repeat' constructor)
  (rintro r h' ⟨g, rfl, rfl⟩; first | refine awe_ghost (ghost_freezeMap (κ := SaleD) (kv := saleV) (z := intA 0) (f := fun s => intA (recF l [] s)) (by solve | repeat' constructor)) ?_ | refine awt_ghost (ghost_freezeMap (κ := SaleD) (kv := saleV) (z := intA 0) (f := fun s => intA (recF l [] s)) (by solve | repeat' constructor)) ?_)
  refine awt_s (md := fun _ => True) rfl (wt_some' rfl rfl rfl rfl (by first | rfl | assumption | exact dT (by omega) | exact dF (by omega))) (st_call T0 (play_p cp ct p t hv h2) rfl rfl rfl rfl (by first | exact callee_lit | exact callee_v | exact callee_fn | assumption) (by solve | repeat' constructor) (by first | rfl | assumption) rfl ?_)
  rintro _ rfl
  refine awe_s (md := fun _ => True) rfl (wt_some' rfl rfl rfl rfl (by first | rfl | assumption | exact dT (by omega) | exact dF (by omega))) (st_acall T0 (explains_p true _ (recF l []) (playT p t) (by omega)) rfl rfl rfl rfl (by first | exact callee_lit | exact callee_v | exact callee_fn | assumption) (by solve | repeat' constructor) (by first | rfl | assumption) rfl (by first | ((repeat' (first | exact SubH.refl _ | apply SubH.cons | exact Pick.here | apply Pick.there)); all_goals fail) | fail) (fun _ _ => trivial) ?_)
  rintro r h' ⟨rfl, rfl⟩
  first
    | refine awe_p rfl (wt_none rfl) (pv_pick_t rfl rfl (by first | rfl | assumption | exact dT (by omega) | exact dF (by omega)) rfl) rfl rfl ?_
    | refine awe_p rfl (wt_none rfl) (pv_pick_f rfl rfl (by first | rfl | assumption | exact dT (by omega) | exact dF (by omega)) rfl) rfl rfl ?_
  refine awe_p rfl (wt_none rfl) (pv_assign rfl rfl) rfl rfl ?_
  refine awe_end ?_
  exact cut_n ⟨rfl, rfl⟩ (by first | ((repeat' (first | exact True.intro | refine ⟨rfl, ?_⟩)); all_goals fail) | fail) (by solve | repeat' constructor)
end
theorem ProveTruth_p (cp ct c : Bool) (p : PostD) (t : List Int) (l : List SaleD) (hl : p.ords.length ≤ 1000) (htl : t.length ≤ 1000) (hll : l.length ≤ 1000) : PCall Try.prog 43 [postA cp p, .t (intsT ct t), .t (salesT c l)] (fun r => r = boolA (proveB p t l)) := by
  refine acall_of_awp T0 Try.func43 rfl rfl rfl ?_
  unfold proveB
  repeat (first | refine awp_seq ?_ | refine awp_region_lit rfl ?_)
  refine awl_hw (by first | exact wt_none rfl | exact wt_some' rfl rfl rfl rfl (by first | rfl | assumption | exact dT (by omega) | exact dF (by omega))) (st_box rfl rfl (by first | rfl | assumption) (by first | assumption | (simp only [cellsA]; rfl)) rfl rfl ?_)
  intro g3
  repeat (first | refine awp_seq ?_ | ((first | (show AWL _ _ _ (⟨_, .assign _, _, _, _, _⟩ :: _) _ _ _; refine awl_pw ?wtq (pv_assign rfl rfl) rfl rfl ?_)); case wtq => first | exact wt_none rfl | exact wt_some' rfl rfl rfl rfl (by first | rfl | assumption | exact dT (by omega) | exact dF (by omega))) | refine awl_nil ?_)
  by_cases h1 : recdN p l = 0
  case neg =>
    rw [decide_eq_false h1]
    refine awp_cut _ (awp_weak (by first | ((repeat' (first | exact True.intro | refine ⟨rfl, ?_⟩)); all_goals fail) | fail) (by solve | repeat' constructor) (oe_1a (g3 := g3) (cp := cp) (ct := ct) (c := c) (p := p) (l := l) (t := t) (u6 := boolA false) hl hll h1 rfl)) ?_
    rintro s h ⟨rfl, rfl⟩
    repeat (first | refine awp_ret ?_)
    exact body_p (.cons rfl .nil) rfl
  rw [decide_eq_true h1]
  cases h2 : truthB p t
  · refine awp_cut _ (awp_weak (by first | ((repeat' (first | exact True.intro | refine ⟨rfl, ?_⟩)); all_goals fail) | fail) (by solve | repeat' constructor) (oe_1b (g3 := g3) (cp := cp) (ct := ct) (c := c) (p := p) (l := l) (t := t) (u6 := boolA false) hl hll htl h1 h2 rfl)) ?_
    rintro s h ⟨rfl, rfl⟩
    repeat (first | refine awp_ret ?_)
    exact body_p (.cons rfl .nil) rfl
  · refine awp_cut _ (awp_weak (by first | ((repeat' (first | exact True.intro | refine ⟨rfl, ?_⟩)); all_goals fail) | fail) (by solve | repeat' constructor) (oe_1c (g3 := g3) (cp := cp) (ct := ct) (c := c) (p := p) (l := l) (t := t) (u6 := boolA false) hl hll htl h1 (vpost (recd_ok h1).1) h2 rfl)) ?_
    rintro s h ⟨rfl, rfl⟩
    repeat (first | refine awp_ret ?_)
    exact body_p (.cons rfl .nil) rfl
end Go.Proofs.Yteaoclpikdmkiaa
