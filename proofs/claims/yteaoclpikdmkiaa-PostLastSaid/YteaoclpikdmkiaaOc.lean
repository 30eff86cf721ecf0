/- Records, and what explains them: walks. -/
import Derived.Test.YteaoclpikdmkiaaMs
import Derived.Test.YteaoclpikdmkiaaOa
import Derived.Test.YteaoclpikdmkiaaTlw
import Derived.Test.YteaoclpikdmkiaaTz
import Derived.Test.YteaoclpikdmkiaaTv
namespace Go.Proofs.Yteaoclpikdmkiaa
open Go Go.RowKit Go.Tl
set_option linter.unusedVariables false
set_option linter.unusedSimpArgs false
set_option maxRecDepth 100000
set_option maxHeartbeats 4000000
/-- how often a sale is among the first ones -/
def cntN (l : List SaleD) (s : SaleD) : Nat → Int
  | 0 => 0
  | k + 1 => if l.getD k default = s then cntN l s k + 1 else cntN l s k
/-- how often a sale is recorded, without some records -/
def recN (l : List SaleD) (out : List Int) (s : SaleD) : Nat → Int
  | 0 => 0
  | k + 1 => if (k : Int) ∉ out ∧ l.getD k default = s then recN l out s k + 1 else recN l out s k
theorem cnt_bd (l : List SaleD) (s : SaleD) : ∀ k, 0 ≤ cntN l s k ∧ cntN l s k ≤ k
  | 0 => by simp [cntN]
  | k + 1 => by
    have := cnt_bd l s k
    simp only [cntN]
    split <;> omega
theorem rec_bd (l : List SaleD) (out : List Int) (s : SaleD) : ∀ k, 0 ≤ recN l out s k ∧ recN l out s k ≤ k
  | 0 => by simp [recN]
  | k + 1 => by
    have := rec_bd l out s k
    simp only [recN]
    split <;> omega
/-- whether sales have all that is recorded -/
noncomputable def explB (F : SaleD → Int) (l : List SaleD) : Bool := @decide (∀ s, F s ≤ cntN l s l.length) (Classical.propDecidable _)
theorem expl_iff {F : SaleD → Int} {l : List SaleD} : explB F l = true ↔ ∀ s, F s ≤ cntN l s l.length := by
  unfold explB
  exact @decide_eq_true_iff _ (Classical.propDecidable _)
theorem expl_no {F : SaleD → Int} {l : List SaleD} {s : SaleD} (h : ¬ F s ≤ cntN l s l.length) : explB F l = false := by
  cases c : explB F l
  · rfl
  · exact absurd (expl_iff.1 c s) h
attribute [local irreducible] AWP AWL AOp PV LV AWT AWE
theorem said_p (c : Bool) (g : Nat) (F : SaleD → Int) (l : List SaleD) (s : SaleD) (hl : l.length ≤ 1000) :
    ACall Try.prog 90 [.v (.map (some g)), .t (salesT c l), saleA s] [recZ g F] (fun r h' => r = boolA (decide (F s ≤ cntN l s l.length)) ∧ h' = [recZ g F]) := by
  refine acall_of_awp T0 Try.func90 rfl rfl rfl ?_
  repeat (first | refine awp_seq ?_ | refine awp_region_lit rfl ?_)
  refine awl_hw (wt_none rfl) (st_box rfl rfl (by first | rfl | assumption) (by first | assumption | (simp only [cellsA]; rfl)) rfl rfl ?_)
  intro g5
  repeat (first | refine awp_seq ?_ | refine awp_block ?_ | refine awp_region_lit rfl ?_ | (show AWL _ _ _ (⟨_, .move _, _, _, _, _⟩ :: _) _ _ _; refine awl_pw (wt_none rfl) (pv_move rfl rfl) rfl rfl ?_) | (show AWL _ _ _ (⟨_, .assign _, _, _, _, _⟩ :: _) _ _ _; refine awl_pw (wt_none rfl) (pv_assign rfl rfl) rfl rfl ?_) | (show AWL _ _ _ (⟨_, .call ⟨.builtin .len, _, _⟩, _, _, _, _⟩ :: _) _ _ _; refine awl_pw (wt_none rfl) (pv_len_t T0 rfl rfl rfl) rfl rfl ?_) | refine awl_nil ?_)
  refine awp_loop (fun m sl h => ∃ (k : Nat), k ≤ l.length ∧ m = l.length - k ∧ sl = [(0, .v (.map (some g))), (5, .v (ptrV g5)), (7, intA (cntN l s k)), (10, .t (salesT c l)), (11, intA l.length), (12, intA k)] ∧ h = [.cl g5 75 (saleRow s), recZ g F]) ?_ ⟨0, Nat.zero_le _, rfl, rfl, rfl⟩ (by first | ((repeat' (first | exact True.intro | refine ⟨rfl, ?_⟩)); all_goals fail) | fail) (by solve | repeat' constructor)
  rintro m sl h ⟨k, hk, rfl, rfl, rfl⟩
  by_cases hkt : k < l.length
  case neg =>
    obtain rfl : k = l.length := by omega
    repeat (first | refine awp_seq ?_ | refine awp_region_lit rfl ?_ | refine awp_exit ?_ | refine awp_cond_f rfl (by first | rfl | assumption | exact dF (by omega)) ?_ | (show AWL _ _ _ (⟨_, .move _, _, _, _, _⟩ :: _) _ _ _; refine awl_pw (wt_none rfl) (pv_move rfl rfl) rfl rfl ?_) | (show AWL _ _ _ (⟨_, .load _ _, _, _, _, _⟩ :: _) _ _ _; refine awl_lw (wt_none rfl) (lv_cla T0 rfl rfl rfl (by solve | repeat' constructor) rfl) rfl rfl rfl ?_) | (show AWL _ _ _ (⟨_, .binOp .lss _ _ _ _, _, _, _, _⟩ :: _) _ _ _; refine awl_pw (wt_none rfl) (pv_lss rfl rfl rfl) rfl rfl ?_) | refine awl_nil ?_)
    refine awl_lw (wt_none rfl) (lv_lookupZ Msl (k := s) rfl rfl rfl rfl (by solve | repeat' constructor) rfl) rfl rfl rfl ?_
    repeat (first | refine awp_ret ?_ | (show AWL _ _ _ (⟨_, .assign _, _, _, _, _⟩ :: _) _ _ _; refine awl_pw (wt_none rfl) (pv_assign rfl rfl) rfl rfl ?_) | (show AWL _ _ _ (⟨_, .binOp .geq _ _ _ _, _, _, _, _⟩ :: _) _ _ _; refine awl_pw (wt_none rfl) (pv_geq rfl rfl rfl) rfl rfl ?_) | refine awl_nil ?_)
    exact body_r (h' := [recZ g F]) (.cons rfl .nil) (by solve | repeat' constructor) ⟨rfl, rfl⟩
  have hb := cnt_bd l s k
  have hst : cntN l s (k + 1) = if l.getD k default = s then cntN l s k + 1 else cntN l s k := rfl
  repeat (first | refine awp_seq ?_ | refine awp_block ?_ | refine awp_region_lit rfl ?_ | refine awp_skip ?_ | refine awp_cond_t rfl (by first | rfl | assumption | exact dT (by omega)) ?_ | (show AWL _ _ _ (⟨_, .load _ _, _, _, _, _⟩ :: _) _ _ _; refine awl_lw (wt_none rfl) (lv_elt_ag T0 rfl rfl rfl rfl (by solve | repeat' constructor)) rfl rfl rfl ?_) | (show AWL _ _ _ (⟨_, .indexAddr _ _ _, _, _, _, _⟩ :: _) _ _ _; refine awl_pw (wt_none rfl) (pv_ix_t T0 rfl rfl rfl rfl (by omega) (by first | exact (rfl : Int.toNat 0 = 0) | exact Int.toNat_natCast _ | rfl)) rfl rfl ?_) | (show AWL _ _ _ (⟨_, .binOp .lss _ _ _ _, _, _, _, _⟩ :: _) _ _ _; refine awl_pw (wt_none rfl) (pv_lss rfl rfl rfl) rfl rfl ?_) | refine awl_nil ?_)
  refine awl_hw (wt_none rfl) (st_alloc T0 rfl rfl rfl rfl (by simp only [Value.cells, List.toList_toArray, List.map_cons, List.map_nil]; rfl) ?_)
  intro g9
  repeat (first | refine awp_seq ?_ | refine awp_region_lit rfl ?_ | (show AWL _ _ _ (⟨_, .load _ _, _, _, _, _⟩ :: _) _ _ _; refine awl_lw (wt_none rfl) (lv_cla T0 rfl rfl rfl (by solve | repeat' constructor) rfl) rfl rfl rfl ?_) | (show AWL _ _ _ (⟨_, .store _ _ _, _, _, _, _⟩ :: _) _ _ _; refine awl_hw (wt_none rfl) (st_store T0 rfl rfl rfl rfl rfl (by first | assumption | (simp only [cellsA]; rfl)) rfl rfl rfl (by solve | repeat' constructor) (by solve | repeat' constructor) trivial ?_)) | refine awl_nil ?_)
  refine awl_pw (wt_none rfl) (pv_eql_sale (s := l.getD k default) (t := s) rfl rfl rfl) rfl rfl ?_
  by_cases hc : l.getD k default = s
  · have d1 := decide_eq_true hc
    rw [if_pos hc] at hst
    rw [d1]
    repeat (first | refine awp_region_lit rfl ?_ | refine then_n ?_ | refine awp_cond_t rfl (by first | rfl | assumption | exact dT (by omega)) ?_ | (show AWL _ _ _ (⟨_, .move _, _, _, _, _⟩ :: _) _ _ _; refine awl_pw (wt_none rfl) (pv_move rfl rfl) rfl rfl ?_) | (show AWL _ _ _ (⟨_, .assign _, _, _, _, _⟩ :: _) _ _ _; refine awl_pw (wt_none rfl) (pv_assign rfl rfl) rfl rfl ?_) | (show AWL _ _ _ (⟨_, .binOp .add _ _ _ _, _, _, _, _⟩ :: _) _ _ _; refine awl_pw (wt_none rfl) (pv_add rfl rfl rfl (by first | assumption | exact wr64 (by omega))) rfl rfl ?_) | refine awl_nil ?_)
    refine rnd_n _ _ _ ?_ ⟨k + 1, hkt, rfl, by rw [hst], rfl⟩ (by first | ((repeat' (first | exact True.intro | refine ⟨rfl, ?_⟩)); all_goals fail) | fail) (by solve | repeat' constructor)
    omega
  · have d1 := decide_eq_false hc
    rw [if_neg hc] at hst
    rw [d1]
    repeat (first | refine awp_region_lit rfl ?_ | refine awp_skip ?_ | refine then_n ?_ | refine awp_cond_f rfl (by first | rfl | assumption | exact dF (by omega)) ?_ | (show AWL _ _ _ (⟨_, .move _, _, _, _, _⟩ :: _) _ _ _; refine awl_pw (wt_none rfl) (pv_move rfl rfl) rfl rfl ?_) | (show AWL _ _ _ (⟨_, .binOp .add _ _ _ _, _, _, _, _⟩ :: _) _ _ _; refine awl_pw (wt_none rfl) (pv_add rfl rfl rfl (by first | assumption | exact wr64 (by omega))) rfl rfl ?_) | refine awl_nil ?_)
    refine rnd_n _ _ _ ?_ ⟨k + 1, hkt, rfl, by rw [hst], rfl⟩ (by first | ((repeat' (first | exact True.intro | refine ⟨rfl, ?_⟩)); all_goals fail) | fail) (by solve | repeat' constructor)
    omega
section
variable {g g7 k : Nat} {F F1 : SaleD → Int} {x : SaleD} {u0 u1 u9 u10 u11 : AV} {rest : List Ent}
theorem oc_6 (hb : -1000000 ≤ F x ∧ F x ≤ 1000000) (hF : ∀ q, F1 q = if q = x then F x + 1 else F q) {ops : Array Oper} (h : regF Try.f73 6 = some ops) :
    AWP Try.prog Try.f73.ntmps none (.region 6 ops true) (cutQ (fun s h => s = [(0, u0), (1, u1), (5, .v (.map (some g))), (9, u9), (10, u10), (11, u11)] ∧ h = .cl g7 75 (saleRow x) :: recM g F1 :: rest))
      [(0, u0), (1, u1), (5, .v (.map (some g))), (7, .v (ptrV g7)), (9, u9), (10, u10), (11, u11)] (.cl g7 75 (saleRow x) :: recM g F :: rest) := by
  cases h
  have hup : updF (fun q => intA (F q)) x (intA (F x + 1)) = fun q => intA (F1 q) := by
    funext q
    unfold updF
    rw [hF]
    split <;> rfl
  refine awp_tree T0 [(0, 0), (1, 1), (2, 3), (3, 0), (4, 3), (5, 0), (6, 3)] (.op 0 0 (.op 1 1 (.fork 2 (.op 3 0 (.op 4 3 (.op 5 0 (.op 6 3 .stop)))) 4 (.op 5 0 (.op 2 3 (.op 3 0 (.op 6 3 .stop))))))) [.cl g7 _ _] rfl (by kernel_rfl) (by solve | repeat' constructor) ?_
  refine awt_po rfl (wt_none rfl) (pv_move rfl rfl) rfl rfl ?_
  refine awt_lo rfl (wt_none rfl) (lv_cla T0 rfl rfl rfl (by solve | repeat' constructor) rfl) rfl rfl rfl ?_
  refine awt_fork ?_ ?_
  · skip
    refine awt_h (hm := []) rfl (wt_none rfl) (by solve | repeat' constructor) rfl (aop_lv (lv_lookupF Msl (k := x) rfl rfl rfl rfl (by solve | repeat' constructor) rfl) rfl (blt_lt rfl) ?_)
    refine awt_n1 rfl (wt_none rfl) (pv_add rfl rfl rfl (by first | assumption | exact wr64 (by omega))) rfl rfl rfl ?_
    refine awt_s (md := fun _ => True) rfl (wt_none rfl) (aop_mapEntryF Msl (k := x) rfl rfl rfl rfl rfl rfl (fun n => (by solve | repeat' constructor)) trivial (fun n => ?_))
    refine awe_p rfl (wt_none rfl) (pv_extract rfl rfl rfl) rfl rfl ?_
    refine awe_s (md := fun _ => True) rfl (wt_none rfl) (aop_entryStoreF Msl rfl rfl rfl rfl rfl (by solve | repeat' constructor) hup trivial ?_)
    refine awe_end ?_
    exact cut_n ⟨rfl, rfl⟩ (by first | ((repeat' (first | exact True.intro | refine ⟨rfl, ?_⟩)); all_goals fail) | fail) (SubH.refl _)
  · skip
    refine awt_h (hm := [recM g F]) rfl (wt_none rfl) (by solve | repeat' constructor) rfl (aop_mapEntryF Msl (k := x) rfl rfl rfl rfl rfl rfl (fun n => (by solve | repeat' constructor)) ⟨_, List.mem_singleton.2 rfl, rfl⟩ (fun n => ?_))
    refine awt_n1 rfl (wt_none rfl) (pv_extract rfl rfl rfl) rfl rfl rfl ?_
    refine awt_s (md := fun _ => True) rfl (wt_none rfl) (aop_lv (lv_lookupF Msl (k := x) rfl rfl rfl rfl (by solve | repeat' constructor) rfl) rfl (blt_lt rfl) ?_)
    refine awe_p rfl (wt_none rfl) (pv_add rfl rfl rfl (by first | assumption | exact wr64 (by omega))) rfl rfl ?_
    refine awe_s (md := fun _ => True) rfl (wt_none rfl) (aop_entryStoreF Msl rfl rfl rfl rfl rfl (by solve | repeat' constructor) hup trivial ?_)
    refine awe_end ?_
    exact cut_n ⟨rfl, rfl⟩ (by first | ((repeat' (first | exact True.intro | refine ⟨rfl, ?_⟩)); all_goals fail) | fail) (SubH.refl _)
end
theorem counted_p (c c' : Bool) (l : List SaleD) (out : List Int) (hl : l.length ≤ 1000) (ho : out.length ≤ 1000) :
    ACall Try.prog 73 [.t (salesT c l), .t (intsT c' out)] [] (fun r h' => ∃ g, r = .v (.map (some g)) ∧ h' = [recM g (fun s => recN l out s l.length)]) := by
  refine acall_of_awp T0 Try.func73 rfl rfl rfl ?_
  repeat (first | refine awp_seq ?_ | refine awp_region_lit rfl ?_ | (show AWL _ _ _ (⟨_, .assign _, _, _, _, _⟩ :: _) _ _ _; refine awl_pw (wt_none rfl) (pv_assign rfl rfl) rfl rfl ?_) | refine awl_nil ?_)
  refine awl_hw (wt_none rfl) (aop_makeMapF saleV (intA 0) rfl rfl rfl fun g => ?_)
  repeat (first | refine awp_seq ?_ | refine awp_block ?_ | refine awp_region_lit rfl ?_ | (show AWL _ _ _ (⟨_, .move _, _, _, _, _⟩ :: _) _ _ _; refine awl_pw (wt_none rfl) (pv_move rfl rfl) rfl rfl ?_) | (show AWL _ _ _ (⟨_, .assign _, _, _, _, _⟩ :: _) _ _ _; refine awl_pw (wt_none rfl) (pv_assign rfl rfl) rfl rfl ?_) | (show AWL _ _ _ (⟨_, .call ⟨.builtin .len, _, _⟩, _, _, _, _⟩ :: _) _ _ _; refine awl_pw (wt_none rfl) (pv_len_t T0 rfl rfl rfl) rfl rfl ?_) | refine awl_nil ?_)
  refine awp_loop (fun m sl h => ∃ (k : Nat), k ≤ l.length ∧ m = l.length - k ∧ sl = [(0, .t (salesT c l)), (1, .t (intsT c' out)), (5, .v (.map (some g))), (9, .t (salesT c l)), (10, intA l.length), (11, intA k)] ∧ h = [recM g (fun s => recN l out s k)]) ?_ ⟨0, Nat.zero_le _, rfl, rfl, rfl⟩ (by first | ((repeat' (first | exact True.intro | refine ⟨rfl, ?_⟩)); all_goals fail) | fail) (by solve | repeat' constructor)
  rintro m sl h ⟨k, hk, rfl, rfl, rfl⟩
  by_cases hkt : k < l.length
  case neg =>
    obtain rfl : k = l.length := by omega
    repeat (first | refine awp_seq ?_ | refine awp_region_lit rfl ?_ | refine awp_exit ?_ | refine awp_ret ?_ | refine awp_cond_f rfl (by first | rfl | assumption | exact dF (by omega)) ?_ | (show AWL _ _ _ (⟨_, .move _, _, _, _, _⟩ :: _) _ _ _; refine awl_pw (wt_none rfl) (pv_move rfl rfl) rfl rfl ?_) | (show AWL _ _ _ (⟨_, .assign _, _, _, _, _⟩ :: _) _ _ _; refine awl_pw (wt_none rfl) (pv_assign rfl rfl) rfl rfl ?_) | (show AWL _ _ _ (⟨_, .binOp .lss _ _ _ _, _, _, _, _⟩ :: _) _ _ _; refine awl_pw (wt_none rfl) (pv_lss rfl rfl rfl) rfl rfl ?_) | refine awl_nil ?_)
    exact body_r (h' := [recM g (fun s => recN l out s l.length)]) (.cons rfl .nil) (by solve | repeat' constructor) ⟨g, rfl, rfl⟩
  have hb := rec_bd l out (l.getD k default) k
  repeat (first | refine awp_seq ?_ | refine awp_block ?_ | refine awp_region_lit rfl ?_ | refine awp_skip ?_ | refine awp_cond_t rfl (by first | rfl | assumption | exact dT (by omega)) ?_ | (show AWL _ _ _ (⟨_, .move _, _, _, _, _⟩ :: _) _ _ _; refine awl_pw (wt_none rfl) (pv_move rfl rfl) rfl rfl ?_) | (show AWL _ _ _ (⟨_, .load _ _, _, _, _, _⟩ :: _) _ _ _; refine awl_lw (wt_none rfl) (lv_elt_ag T0 rfl rfl rfl rfl (by solve | repeat' constructor)) rfl rfl rfl ?_) | (show AWL _ _ _ (⟨_, .indexAddr _ _ _, _, _, _, _⟩ :: _) _ _ _; refine awl_pw (wt_none rfl) (pv_ix_t T0 rfl rfl rfl rfl (by omega) (by first | exact (rfl : Int.toNat 0 = 0) | exact Int.toNat_natCast _ | rfl)) rfl rfl ?_) | (show AWL _ _ _ (⟨_, .binOp .lss _ _ _ _, _, _, _, _⟩ :: _) _ _ _; refine awl_pw (wt_none rfl) (pv_lss rfl rfl rfl) rfl rfl ?_) | refine awl_nil ?_)
  refine awl_hw (wt_none rfl) (st_alloc T0 rfl rfl rfl rfl (by simp only [Value.cells, List.toList_toArray, List.map_cons, List.map_nil]; rfl) ?_)
  intro g7
  repeat (first | refine awp_seq ?_ | refine awp_region_lit rfl ?_ | (show AWL _ _ _ (⟨_, .move _, _, _, _, _⟩ :: _) _ _ _; refine awl_pw (wt_none rfl) (pv_move rfl rfl) rfl rfl ?_) | (show AWL _ _ _ (⟨_, .assign _, _, _, _, _⟩ :: _) _ _ _; refine awl_pw (wt_none rfl) (pv_assign rfl rfl) rfl rfl ?_) | (show AWL _ _ _ (⟨_, .store _ _ _, _, _, _, _⟩ :: _) _ _ _; refine awl_hw (wt_none rfl) (st_store T0 rfl rfl rfl rfl rfl (by first | assumption | (simp only [cellsA]; rfl)) rfl rfl rfl (by solve | repeat' constructor) (by solve | repeat' constructor) trivial ?_)) | refine awl_nil ?_)
  by_cases hc : (k : Int) ∈ out
  · have d1 := decide_eq_true hc
    have hst : (fun s => recN l out s (k + 1)) = fun s => recN l out s k := by
      funext s
      show (if (k : Int) ∉ out ∧ l.getD k default = s then _ else _) = _
      rw [if_neg (fun h => h.1 hc)]
    refine awl_hw (wt_none rfl) (st_call T0 (contains_p c' out k ho) rfl rfl rfl rfl (by first | exact callee_lit | exact callee_v | exact callee_fn | assumption) (by solve | repeat' constructor) (by first | rfl | assumption) rfl ?_)
    rintro r rfl
    rw [d1]
    repeat (first | refine awp_region_lit rfl ?_ | refine awp_skip ?_ | refine then_n ?_ | refine awp_cond_f rfl (by first | rfl | assumption | exact dF (by omega)) ?_ | (show AWL _ _ _ (⟨_, .move _, _, _, _, _⟩ :: _) _ _ _; refine awl_pw (wt_none rfl) (pv_move rfl rfl) rfl rfl ?_) | (show AWL _ _ _ (⟨_, .binOp .add _ _ _ _, _, _, _, _⟩ :: _) _ _ _; refine awl_pw (wt_none rfl) (pv_add rfl rfl rfl (by first | assumption | exact wr64 (by omega))) rfl rfl ?_) | (show AWL _ _ _ (⟨_, .unOp .not _ _, _, _, _, _⟩ :: _) _ _ _; refine awl_pw (wt_none rfl) (pv_not rfl rfl) rfl rfl ?_) | refine awl_nil ?_)
    refine rnd_n _ _ _ ?_ ⟨k + 1, hkt, rfl, rfl, by rw [hst]⟩ (by first | ((repeat' (first | exact True.intro | refine ⟨rfl, ?_⟩)); all_goals fail) | fail) (by solve | repeat' constructor)
    omega
  · have d1 := decide_eq_false hc
    refine awl_hw (wt_none rfl) (st_call T0 (contains_p c' out k ho) rfl rfl rfl rfl (by first | exact callee_lit | exact callee_v | exact callee_fn | assumption) (by solve | repeat' constructor) (by first | rfl | assumption) rfl ?_)
    rintro r rfl
    rw [d1]
    repeat (first | refine then_n ?_ | refine awp_cond_t rfl (by first | rfl | assumption | exact dT (by omega)) ?_ | (show AWL _ _ _ (⟨_, .unOp .not _ _, _, _, _, _⟩ :: _) _ _ _; refine awl_pw (wt_none rfl) (pv_not rfl rfl) rfl rfl ?_) | refine awl_nil ?_)
    refine awp_cutB _ (awp_weak (by first | ((repeat' (first | exact True.intro | refine ⟨rfl, ?_⟩)); all_goals fail) | fail) (by solve | repeat' constructor) (oc_6 (g := g) (g7 := g7) (F := fun s => recN l out s k) (F1 := fun s => recN l out s (k + 1)) (x := l.getD k default) (u0 := .t (salesT c l)) (u1 := .t (intsT c' out)) (u9 := .t (salesT c l)) (u10 := intA l.length) (u11 := intA k) (rest := []) (by omega) (fun q => by
      show (if (k : Int) ∉ out ∧ l.getD k default = q then _ else _) = _
      by_cases e : l.getD k default = q
      · subst e; rw [if_pos ⟨hc, rfl⟩, if_pos rfl]
      · rw [if_neg (fun h => e h.2), if_neg (fun h => e h.symm)]) rfl)) ?_
    rintro s h ⟨rfl, rfl⟩
    repeat (first | refine awp_region_lit rfl ?_ | (show AWL _ _ _ (⟨_, .move _, _, _, _, _⟩ :: _) _ _ _; refine awl_pw (wt_none rfl) (pv_move rfl rfl) rfl rfl ?_) | (show AWL _ _ _ (⟨_, .binOp .add _ _ _ _, _, _, _, _⟩ :: _) _ _ _; refine awl_pw (wt_none rfl) (pv_add rfl rfl rfl (by first | assumption | exact wr64 (by omega))) rfl rfl ?_) | refine awl_nil ?_)
    refine rnd_n _ _ _ ?_ ⟨k + 1, hkt, rfl, rfl, rfl⟩ (by first | ((repeat' (first | exact True.intro | refine ⟨rfl, ?_⟩)); all_goals fail) | fail) (by solve | repeat' constructor)
    omega
theorem explains_p (c : Bool) (g : Nat) (F : SaleD → Int) (l : List SaleD) (hl : l.length ≤ 1000) :
    ACall Try.prog 76 [.v (.map (some g)), .t (salesT c l)] [recZ g F] (fun r h' => r = boolA (explB F l) ∧ h' = [recZ g F]) := by
  refine acall_of_awp T0 Try.func76 rfl rfl rfl ?_
  repeat (first | refine awp_seq ?_ | refine awp_region_lit rfl ?_ | (show AWL _ _ _ (⟨_, .move _, _, _, _, _⟩ :: _) _ _ _; refine awl_pw (wt_none rfl) (pv_move rfl rfl) rfl rfl ?_) | (show AWL _ _ _ (⟨_, .assign _, _, _, _, _⟩ :: _) _ _ _; refine awl_pw (wt_none rfl) (pv_assign rfl rfl) rfl rfl ?_) | refine awl_nil ?_)
  refine awl_pw (wt_none rfl) (pv_makeFunc_v (fs := [.map (some g)]) (cs := []) rfl rfl rfl) rfl rfl ?_
  repeat (first | refine awp_seq ?_ | refine awp_region_lit rfl ?_ | (show AWL _ _ _ (⟨_, .move _, _, _, _, _⟩ :: _) _ _ _; refine awl_pw (wt_none rfl) (pv_move rfl rfl) rfl rfl ?_) | (show AWL _ _ _ (⟨_, .assign _, _, _, _, _⟩ :: _) _ _ _; refine awl_pw (wt_none rfl) (pv_assign rfl rfl) rfl rfl ?_) | refine awl_nil ?_)
  refine awl_hw (wt_none rfl) (aop_rangeZ (g := g) (kv := saleV) (z := intA 0) (f := fun s => intA (F s)) (kt := 75) (vt := 3) (by kernel_rfl) rfl rfl (by solve | repeat' constructor) rfl rfl fun gi m0 => ?_)
  repeat (first | refine awp_block ?_ | refine awl_nil ?_)
  refine awp_loop (fun m sl h => ∃ (R : List SaleD) (cur : Option SaleD), (∀ x ∈ R, F x ≤ cntN l x l.length) ∧ sl = [(1, .t (salesT c l)), (5, .v (.func (.func 90) #[.map (some g)] #[])), (10, .v (ptrV gi))] ∧ h = [itE saleV (intA 0) g gi (fun s => intA (F s)) m R cur, recZ g F]) ?_ (n := m0) ⟨[], none, fun _ h => (nomatch h), rfl, rfl⟩ (by first | ((repeat' (first | exact True.intro | refine ⟨rfl, ?_⟩)); all_goals fail) | fail) (by solve | repeat' constructor)
  rintro m sl h ⟨R, cur, hR, rfl, rfl⟩
  repeat (first | refine awp_seq ?_ | refine awp_region_lit rfl ?_)
  refine awl_hw (wt_none rfl) (aop_nextZ (kv := saleV) (z := intA 0) (f := fun s => intA (F s)) (g := g) (gi := gi) (m := m) (R := R) (cur := cur) saleV_inj rfl rfl rfl rfl (by solve | repeat' constructor) (fun k => (by solve | repeat' constructor)) trivial (fun hall => ?_) (fun hm x y y' => ?_))
  · have hex : explB F l = true := expl_iff.2 fun x => by
      by_cases e : F x = 0
      · rw [e]; exact (cnt_bd l x l.length).1
      · exact hR x (hall x (fun h => e (by
          have h' : intA (F x) = intA 0 := h
          simpa using h')))
    rw [hex]
    repeat (first | refine awp_seq ?_ | refine awp_region_lit rfl ?_ | refine awp_exit ?_ | refine awp_ret ?_ | refine awp_cond_f rfl (by first | rfl | assumption | exact dF (by omega)) ?_ | (show AWL _ _ _ (⟨_, .assign _, _, _, _, _⟩ :: _) _ _ _; refine awl_pw (wt_none rfl) (pv_assign rfl rfl) rfl rfl ?_) | (show AWL _ _ _ (⟨_, .extract _ _, _, _, _, _⟩ :: _) _ _ _; refine awl_pw (wt_none rfl) (pv_extract rfl rfl rfl) rfl rfl ?_) | refine awl_nil ?_)
    exact body_r (h' := [recZ g F]) (.cons rfl .nil) (by solve | repeat' constructor) ⟨rfl, rfl⟩
  repeat (first | refine awp_seq ?_ | refine awp_block ?_ | refine awp_region_lit rfl ?_ | refine awp_skip ?_ | refine awp_cond_t rfl (by first | rfl | assumption | exact dT (by omega)) ?_ | (show AWL _ _ _ (⟨_, .extract _ _, _, _, _, _⟩ :: _) _ _ _; refine awl_pw (wt_none rfl) (pv_extract rfl rfl rfl) rfl rfl ?_) | refine awl_nil ?_)
  refine awl_hw (wt_none rfl) (aop_entryZ (kv := saleV) (z := intA 0) (f := fun s => intA (F s)) (g := g) (gi := gi) (m := m - 1) (R := x :: R) (k := x) (kA := saleA x) (saleV_rel x) rfl rfl rfl rfl (by solve | repeat' constructor) fun y2 => ?_)
  repeat (first | (show AWL _ _ _ (⟨_, .extract _ _, _, _, _, _⟩ :: _) _ _ _; refine awl_pw (wt_none rfl) (pv_extract rfl rfl rfl) rfl rfl ?_))
  refine awl_hw (wt_none rfl) (st_alloc T0 rfl rfl rfl rfl (by simp only [Value.cells, List.toList_toArray, List.map_cons, List.map_nil]; rfl) ?_)
  intro g6
  repeat (first | refine awp_seq ?_ | refine awp_region_lit rfl ?_ | (show AWL _ _ _ (⟨_, .move _, _, _, _, _⟩ :: _) _ _ _; refine awl_pw (wt_none rfl) (pv_move rfl rfl) rfl rfl ?_) | (show AWL _ _ _ (⟨_, .load _ _, _, _, _, _⟩ :: _) _ _ _; refine awl_lw (wt_none rfl) (lv_cla T0 rfl rfl rfl (by solve | repeat' constructor) rfl) rfl rfl rfl ?_) | (show AWL _ _ _ (⟨_, .store _ _ _, _, _, _, _⟩ :: _) _ _ _; refine awl_hw (wt_none rfl) (st_store T0 rfl rfl rfl rfl rfl (by first | assumption | (simp only [cellsA]; rfl)) rfl rfl rfl (by solve | repeat' constructor) (by solve | repeat' constructor) trivial ?_)) | refine awl_nil ?_)
  refine awl_hw (wt_none rfl) (st_acall T0 (said_p c g F l x hl) rfl rfl rfl rfl (by first | exact callee_lit | exact callee_v | exact callee_fn | assumption) (by solve | repeat' constructor) (by first | rfl | assumption) rfl (by first | ((repeat' (first | exact SubH.refl _ | apply SubH.cons | exact Pick.here | apply Pick.there)); all_goals fail) | fail) (fun _ _ => trivial) ?_)
  rintro r h ⟨rfl, rfl⟩
  simp only [List.cons_append, List.nil_append]
  by_cases hx : F x ≤ cntN l x l.length
  · have d1 := decide_eq_true hx
    rw [d1]
    repeat (first | refine awp_skip ?_ | refine then_n ?_ | refine blk_n ?_ | refine awp_cond_f rfl (by first | rfl | assumption | exact dF (by omega)) ?_ | (show AWL _ _ _ (⟨_, .unOp .not _ _, _, _, _, _⟩ :: _) _ _ _; refine awl_pw (wt_none rfl) (pv_not rfl rfl) rfl rfl ?_) | refine awl_nil ?_)
    refine rnd_n _ _ _ ?_ ⟨x :: R, some x, fun q hq => ?_, rfl, rfl⟩ (by first | ((repeat' (first | exact True.intro | refine ⟨rfl, ?_⟩)); all_goals fail) | fail) (by solve | repeat' constructor)
    · omega
    · rcases List.mem_cons.1 hq with rfl | hq
      · exact hx
      · exact hR q hq
  · have d1 := decide_eq_false hx
    rw [d1, expl_no hx]
    repeat (first | refine awp_seq ?_ | refine awp_region_lit rfl ?_ | refine awp_ret ?_ | refine then_n ?_ | refine then_r ?_ | refine blk_r ?_ | refine rnd_r ?_ | refine awp_cond_t rfl (by first | rfl | assumption | exact dT (by omega)) ?_ | (show AWL _ _ _ (⟨_, .assign _, _, _, _, _⟩ :: _) _ _ _; refine awl_pw (wt_none rfl) (pv_assign rfl rfl) rfl rfl ?_) | (show AWL _ _ _ (⟨_, .unOp .not _ _, _, _, _, _⟩ :: _) _ _ _; refine awl_pw (wt_none rfl) (pv_not rfl rfl) rfl rfl ?_) | refine awl_nil ?_)
    exact body_r (h' := [recZ g F]) (.cons rfl .nil) (by solve | repeat' constructor) ⟨rfl, rfl⟩
/-- the minutes of what was visited last -/
def lastM (vs : List Leaf) : List Int := (vs.getLast?.map Prod.snd).getD []
theorem lastM_snoc (vs : List Leaf) (x : Leaf) : lastM (vs ++ [x]) = x.2 := by simp [lastM]
abbrev toE (gf gr g : Nat) (F : SaleD → Int) (vs : List Leaf) : List Ent := [.cl gf 25 [.t (intsT true (lastM vs))], .cl gr 115 [.v (.map (some g))], recZ g F]
theorem truthOf1_p (gf gr g : Nat) (F : SaleD → Int) (vs : List Leaf) (x : Leaf) (hl : x.1.length ≤ 1000) :
    ACall Try.prog 88 [.t (salesT true x.1), .t (intsT true x.2), .v (ptrV gf), .v (ptrV gr)] (toE gf gr g F vs) (fun r h' => r = boolA (explB F x.1) ∧ h' = toE gf gr g F (vs ++ [x])) := by
  refine acall_of_awp T0 Try.func88 rfl rfl rfl ?_
  unfold toE
  rw [lastM_snoc]
  repeat (first | refine awp_seq ?_ | refine awp_region_lit rfl ?_ | (show AWL _ _ _ (⟨_, .move _, _, _, _, _⟩ :: _) _ _ _; refine awl_pw (wt_none rfl) (pv_move rfl rfl) rfl rfl ?_) | (show AWL _ _ _ (⟨_, .assign _, _, _, _, _⟩ :: _) _ _ _; refine awl_pw (wt_none rfl) (pv_assign rfl rfl) rfl rfl ?_) | (show AWL _ _ _ (⟨_, .load _ _, _, _, _, _⟩ :: _) _ _ _; refine awl_lw (wt_none rfl) (lv_cl1 T0 rfl rfl rfl (by solve | repeat' constructor) (by first | rfl | assumption)) rfl rfl rfl ?_) | (show AWL _ _ _ (⟨_, .store _ _ _, _, _, _, _⟩ :: _) _ _ _; refine awl_hw (wt_none rfl) (st_store T0 rfl rfl rfl rfl rfl (by first | assumption | (simp only [cellsA]; rfl)) rfl rfl rfl (by solve | repeat' constructor) (by solve | repeat' constructor) trivial ?_)) | refine awl_nil ?_)
  refine awl_hw (wt_none rfl) (st_acall T0 (explains_p true g F x.1 hl) rfl rfl rfl rfl (by first | exact callee_lit | exact callee_v | exact callee_fn | assumption) (by solve | repeat' constructor) (by first | rfl | assumption) rfl (by first | ((repeat' (first | exact SubH.refl _ | apply SubH.cons | exact Pick.here | apply Pick.there)); all_goals fail) | fail) (fun _ _ => trivial) ?_)
  rintro r h ⟨rfl, rfl⟩
  simp only [List.cons_append, List.nil_append]
  repeat (first | refine awp_ret ?_ | (show AWL _ _ _ (⟨_, .assign _, _, _, _, _⟩ :: _) _ _ _; refine awl_pw (wt_none rfl) (pv_assign rfl rfl) rfl rfl ?_) | refine awl_nil ?_)
  exact body_r (h' := [.cl gf 25 [.t (intsT true x.2)], .cl gr 115 [.v (.map (some g))], recZ g F]) (.cons rfl .nil) (by solve | repeat' constructor) ⟨rfl, rfl⟩
theorem truthOf_en (gf gr g : Nat) (F : SaleD → Int) (p : PostD) (hv : VPost p) : EnOk p (.v (.func (.func 88) #[] #[ptrV gf, ptrV gr])) 88 [] [.v (ptrV gf), .v (ptrV gr)] (fun x => explB F x.1) (fun vs => packOb (toE gf gr g F vs)) :=
  ⟨callee_v (a := []) (b := [ptrV gf, ptrV gr]), rfl, rfl, fun vs x hx => acall_packT (truthOf1_p gf gr g F vs x (by have := leaf_len hv hx; omega))⟩
theorem truthOf_p (cp : Bool) (p : PostD) (hv : VPost p) (g : Nat) (F : SaleD → Int) :
    ACall Try.prog 72 [postA cp p, .v (.map (some g))] [recZ g F] (fun r h' => r = .tup [.t (intsT true (lastM (uptoL (fun x => explB F x.1) (leaves p)))), boolA ((leaves p).any fun x => explB F x.1)] ∧ h' = [recZ g F]) := by
  refine acall_of_awp T0 Try.func72 rfl rfl rfl ?_
  repeat (first | refine awp_seq ?_ | refine awp_region_lit rfl ?_)
  refine awl_hw (wt_none rfl) (st_box rfl rfl (by first | rfl | assumption) (by first | assumption | (simp only [cellsA]; rfl)) rfl rfl ?_)
  intro g2
  skip
  refine awl_hw (wt_none rfl) (st_box rfl rfl (by first | rfl | assumption) (by first | assumption | (simp only [cellsA]; rfl)) rfl rfl ?_)
  intro g3
  skip
  refine awl_hw (wt_none rfl) (st_alloc T0 rfl rfl rfl rfl (by simp only [Value.cells, List.toList_toArray, List.map_cons, List.map_nil]; rfl) ?_)
  intro g4
  refine awl_ghost (ghost_nilrow 3 1) ?_
  refine awl_ghost (ghost_freeze_cell (g := g4) (j := 0) (v := .slice none 0 0) (E := 3) (sz := 1) (n := 0) (rows := []) (fun q => [Tr.sc (.int .i64 (([] : List Int).getD q 0))]) (by solve | repeat' constructor) (by solve | repeat' constructor) rfl rfl rfl (fun k hk => absurd hk (Nat.not_lt_zero _))) ?_
  rw [show (Tr.sl true 1 0 fun q => [Tr.sc (.int .i64 (([] : List Int).getD q 0))]) = intsT true (lastM []) from rfl]
  repeat (first | refine awp_seq ?_ | refine awp_region_lit rfl ?_ | (show AWL _ _ _ (⟨_, .assign _, _, _, _, _⟩ :: _) _ _ _; refine awl_pw (wt_none rfl) (pv_assign rfl rfl) rfl rfl ?_) | (show AWL _ _ _ (⟨_, .load _ _, _, _, _, _⟩ :: _) _ _ _; refine awl_lw (wt_none rfl) (lv_cla T0 rfl rfl rfl (by solve | repeat' constructor) rfl) rfl rfl rfl ?_) | refine awl_nil ?_)
  refine awl_pw (wt_none rfl) (pv_makeFunc_v (fs := []) (cs := [ptrV g4, ptrV g3]) rfl rfl rfl) rfl rfl ?_
  skip
  have hC := acall_unpackT (truths_p cp p hv (truthOf_en g4 g3 g F p hv))
  refine awl_hw (wt_none rfl) (st_acall T0 (hC) rfl rfl rfl rfl (by first | exact callee_lit | exact callee_v | exact callee_fn | assumption) (by solve | repeat' constructor) (by first | rfl | assumption) rfl (by first | ((repeat' (first | exact SubH.refl _ | apply SubH.cons | exact Pick.here | apply Pick.there)); all_goals fail) | fail) (fun _ _ => trivial) ?_)
  rintro r h ⟨rfl, rfl⟩
  simp only [List.cons_append, List.nil_append]
  repeat (first | refine awp_seq ?_ | refine awp_region_lit rfl ?_ | refine awp_ret ?_ | (show AWL _ _ _ (⟨_, .move _, _, _, _, _⟩ :: _) _ _ _; refine awl_pw (wt_none rfl) (pv_move rfl rfl) rfl rfl ?_) | (show AWL _ _ _ (⟨_, .assign _, _, _, _, _⟩ :: _) _ _ _; refine awl_pw (wt_none rfl) (pv_assign rfl rfl) rfl rfl ?_) | (show AWL _ _ _ (⟨_, .load _ _, _, _, _, _⟩ :: _) _ _ _; refine awl_lw (wt_none rfl) (lv_cl1 T0 rfl rfl rfl (by solve | repeat' constructor) (by first | rfl | assumption)) rfl rfl rfl ?_) | (show AWL _ _ _ (⟨_, .store _ _ _, _, _, _, _⟩ :: _) _ _ _; refine awl_hw (wt_none rfl) (st_store T0 rfl rfl rfl rfl rfl (by first | assumption | (simp only [cellsA]; rfl)) rfl rfl rfl (by solve | repeat' constructor) (by solve | repeat' constructor) trivial ?_)) | refine awl_nil ?_)
  exact body_r (h' := [recZ g F]) (.cons ⟨g4, _, _, _, _, rfl, rfl, (by solve | repeat' constructor), Nat.le_refl _, .inr rfl, rfl⟩ (.cons rfl .nil)) (by solve | repeat' constructor) ⟨rfl, rfl⟩
/-- the error of a post with records -/
def recdN (p : PostD) (l : List SaleD) : Int := if faultN p ≠ 0 then faultN p else if 6 < l.length then 3 else 0
theorem recorded_p (cp c : Bool) (p : PostD) (l : List SaleD) (hl : p.ords.length ≤ 1000) (hll : l.length ≤ 1000) : PCall Try.prog 71 [postA cp p, .t (salesT c l)] (fun r => r = intA (recdN p l)) := by
  refine acall_of_awp T0 Try.func71 rfl rfl rfl ?_
  have hfr := fault_rng p
  unfold recdN
  repeat (first | refine awp_seq ?_ | refine awp_region_lit rfl ?_)
  refine awl_hw (wt_none rfl) (st_box rfl rfl (by first | rfl | assumption) (by first | assumption | (simp only [cellsA]; rfl)) rfl rfl ?_)
  intro g2
  repeat (first | refine awp_seq ?_ | refine awp_region_lit rfl ?_ | (show AWL _ _ _ (⟨_, .assign _, _, _, _, _⟩ :: _) _ _ _; refine awl_pw (wt_none rfl) (pv_assign rfl rfl) rfl rfl ?_) | (show AWL _ _ _ (⟨_, .load _ _, _, _, _, _⟩ :: _) _ _ _; refine awl_lw (wt_none rfl) (lv_cla T0 rfl rfl rfl (by solve | repeat' constructor) rfl) rfl rfl rfl ?_) | refine awl_nil ?_)
  refine awl_hw (wt_none rfl) (st_call T0 (check_p cp p hl) rfl rfl rfl rfl (by first | exact callee_lit | exact callee_v | exact callee_fn | assumption) (by solve | repeat' constructor) (by first | rfl | assumption) rfl ?_)
  rintro _ rfl
  by_cases h1 : faultN p = 0
  case neg =>
    have d1 : decide (faultN p ≠ 0) = true := decide_eq_true h1
    rw [if_pos h1]
    repeat (first | refine awp_seq ?_ | refine awp_region_lit rfl ?_ | refine awp_ret ?_ | refine then_n ?_ | refine then_r ?_ | refine awp_cond_t rfl (by first | rfl | assumption | exact dT (by omega)) ?_ | (show AWL _ _ _ (⟨_, .move _, _, _, _, _⟩ :: _) _ _ _; refine awl_pw (wt_none rfl) (pv_move rfl rfl) rfl rfl ?_) | (show AWL _ _ _ (⟨_, .assign _, _, _, _, _⟩ :: _) _ _ _; refine awl_pw (wt_none rfl) (pv_assign rfl rfl) rfl rfl ?_) | (show AWL _ _ _ (⟨_, .binOp .neq _ _ _ _, _, _, _, _⟩ :: _) _ _ _; refine awl_pw (wt_none rfl) (pv_neq rfl rfl rfl) rfl rfl ?_) | refine awl_nil ?_)
    exact body_p (.cons rfl .nil) rfl
  have d1 : decide (faultN p ≠ 0) = false := decide_eq_false (fun h => h h1)
  rw [if_neg (fun h => h h1)]
  by_cases h2 : 6 < l.length
  · have d2 : decide ((6 : Int) < l.length) = true := decide_eq_true (by omega)
    rw [if_pos h2]
    repeat (first | refine awp_seq ?_ | refine awp_region_lit rfl ?_ | refine awp_skip ?_ | refine awp_ret ?_ | refine then_n ?_ | refine then_r ?_ | refine awp_cond_t rfl (by first | rfl | assumption | exact dT (by omega)) ?_ | refine awp_cond_f rfl (by first | rfl | assumption | exact dF (by omega)) ?_ | (show AWL _ _ _ (⟨_, .move _, _, _, _, _⟩ :: _) _ _ _; refine awl_pw (wt_none rfl) (pv_move rfl rfl) rfl rfl ?_) | (show AWL _ _ _ (⟨_, .assign _, _, _, _, _⟩ :: _) _ _ _; refine awl_pw (wt_none rfl) (pv_assign rfl rfl) rfl rfl ?_) | (show AWL _ _ _ (⟨_, .binOp .gtr _ _ _ _, _, _, _, _⟩ :: _) _ _ _; refine awl_pw (wt_none rfl) (pv_gtr rfl rfl rfl) rfl rfl ?_) | (show AWL _ _ _ (⟨_, .binOp .neq _ _ _ _, _, _, _, _⟩ :: _) _ _ _; refine awl_pw (wt_none rfl) (pv_neq rfl rfl rfl) rfl rfl ?_) | (show AWL _ _ _ (⟨_, .call ⟨.builtin .len, _, _⟩, _, _, _, _⟩ :: _) _ _ _; refine awl_pw (wt_none rfl) (pv_len_t T0 rfl rfl rfl) rfl rfl ?_) | refine awl_nil ?_)
    exact body_p (.cons rfl .nil) rfl
  · have d2 : decide ((6 : Int) < l.length) = false := decide_eq_false (by omega)
    rw [if_neg h2]
    repeat (first | refine awp_seq ?_ | refine awp_region_lit rfl ?_ | refine awp_skip ?_ | refine awp_ret ?_ | refine then_n ?_ | refine awp_cond_f rfl (by first | rfl | assumption | exact dF (by omega)) ?_ | (show AWL _ _ _ (⟨_, .move _, _, _, _, _⟩ :: _) _ _ _; refine awl_pw (wt_none rfl) (pv_move rfl rfl) rfl rfl ?_) | (show AWL _ _ _ (⟨_, .assign _, _, _, _, _⟩ :: _) _ _ _; refine awl_pw (wt_none rfl) (pv_assign rfl rfl) rfl rfl ?_) | (show AWL _ _ _ (⟨_, .binOp .gtr _ _ _ _, _, _, _, _⟩ :: _) _ _ _; refine awl_pw (wt_none rfl) (pv_gtr rfl rfl rfl) rfl rfl ?_) | (show AWL _ _ _ (⟨_, .binOp .neq _ _ _ _, _, _, _, _⟩ :: _) _ _ _; refine awl_pw (wt_none rfl) (pv_neq rfl rfl rfl) rfl rfl ?_) | (show AWL _ _ _ (⟨_, .call ⟨.builtin .len, _, _⟩, _, _, _, _⟩ :: _) _ _ _; refine awl_pw (wt_none rfl) (pv_len_t T0 rfl rfl rfl) rfl rfl ?_) | refine awl_nil ?_)
    exact body_p (.cons rfl .nil) rfl
end Go.Proofs.Yteaoclpikdmkiaa
