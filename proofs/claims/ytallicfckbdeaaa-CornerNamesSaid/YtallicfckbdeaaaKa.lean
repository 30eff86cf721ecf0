/- The reference's Before (Try.func65), Same (Try.func27), Shorter (Try.func55): walks. -/
import Derived.Test.YtallicfckbdeaaaXb
import Derived.Test.YtallicfckbdeaaaGTy
namespace Go.Proofs.Ytallicfckbdeaaa
open Go Go.RowKit Go.Tl
set_option linter.unusedVariables false
set_option linter.unusedSimpArgs false
set_option maxRecDepth 100000
set_option maxHeartbeats 4000000
/-- whether a list comes before another one -/
def lexB : List Int → List Int → Bool
  | x :: a, y :: c => if x = y then lexB a c else decide (x < y)
  | [], c => decide (0 < c.length)
  | _ :: _, [] => false
theorem lexB_self : ∀ a, lexB a a = false
  | [] => rfl
  | x :: a => by
    show (if x = x then lexB a a else decide (x < x)) = false
    rw [if_pos rfl]
    exact lexB_self a
theorem lexB_tri : ∀ {a c : List Int}, a ≠ c → lexB a c = true ∨ lexB c a = true
  | [], [], h => absurd rfl h
  | [], _ :: _, _ => .inl (by simp [lexB])
  | _ :: _, [], _ => .inr (by simp [lexB])
  | x :: a, y :: c, h => by
    simp only [lexB]
    by_cases e : x = y
    · subst e
      rw [if_pos rfl, if_pos rfl]
      exact lexB_tri (fun h' => h (by rw [h']))
    · rw [if_neg e, if_neg (fun h => e h.symm)]
      by_cases c : x < y
      · exact .inl (decide_eq_true c)
      · exact .inr (decide_eq_true (by omega))
theorem lexB_iff : ∀ {a c : List Int}, a.length = c.length → (lexB a c = true ↔ lexL a c)
  | [], [], _ => by simp [lexB, lexL]
  | [], _ :: _, h => by cases h
  | _ :: _, [], h => by cases h
  | x :: a, y :: c, h => by
    have ih := lexB_iff (a := a) (c := c) (by simpa using h)
    simp only [lexB, lexL]
    by_cases e : x = y
    · subst e
      rw [if_pos rfl, ih]
      exact ⟨fun h => .inr ⟨rfl, h⟩, fun h => h.elim (fun h => absurd h (Int.lt_irrefl _)) And.right⟩
    · rw [if_neg e, decide_eq_true_eq]
      exact ⟨.inl, fun h => h.elim id (fun h => absurd h.1 e)⟩
theorem lexB_drop : ∀ {k : Nat} {a c : List Int}, k ≤ a.length → k ≤ c.length → (∀ j, j < k → a.getD j 0 = c.getD j 0) → lexB a c = lexB (a.drop k) (c.drop k)
  | 0, a, c, _, _, _ => by simp
  | k + 1, [], c, h, _, _ => absurd h (Nat.not_succ_le_zero _)
  | k + 1, _ :: _, [], _, h, _ => absurd h (Nat.not_succ_le_zero _)
  | k + 1, x :: a, y :: c, h1, h2, h => by
    have e : x = y := h 0 (by omega)
    simp only [lexB, List.drop_succ_cons]
    rw [if_pos e]
    exact lexB_drop (by simpa using h1) (by simpa using h2) (fun j hj => h (j + 1) (by omega))
theorem drop_getD {a : List Int} {k : Nat} (h : k < a.length) : a.drop k = a.getD k 0 :: a.drop (k + 1) := by
  rw [List.drop_eq_getElem_cons h, List.getD_eq_getElem?_getD, List.getElem?_eq_getElem h]
  rfl
/-- shorter, or as long and before -/
def shortB (a c : List Int) : Bool := decide (a.length < c.length) || (decide (a.length = c.length) && lexB a c)
theorem shortB_iff {a c : List Int} : shortB a c = true ↔ lessL a c := by
  unfold shortB lessL
  rw [Bool.or_eq_true, Bool.and_eq_true, decide_eq_true_eq, decide_eq_true_eq]
  constructor
  · rintro (h | ⟨h1, h2⟩)
    · exact .inl h
    · exact .inr ⟨h1, (lexB_iff h1).1 h2⟩
  · rintro (h | ⟨h1, h2⟩)
    · exact .inl h
    · exact .inr ⟨h1, (lexB_iff h1).2 h2⟩
attribute [local irreducible] AWP AWL AOp PV LV AWT AWE
section
variable {cp cp' : Bool} {a c : List Int} {k : Nat} {u4 : AV}
theorem ka_4 (h1 : k < a.length) (h2 : k < c.length) (hl : a.length ≤ 1000000 ∧ c.length ≤ 1000000) {ops : Array Oper} (h : regF Try.f65 4 = some ops) :
    AWP Try.prog Try.f65.ntmps none (.region 4 ops true) (cutQ (fun s h => s = [(26, boolA (decide (a.getD k 0 ≠ c.getD k 0))), (0, .t (intsT cp a)), (1, .t (intsT cp' c)), (5, intA k)] ∧ h = []))
      [(0, .t (intsT cp a)), (1, .t (intsT cp' c)), (5, intA k)] [] := by
  cases h
  refine awp_par T0 (l := (0 :: 1 :: 2 :: 3 :: 4 :: 5 :: 6 :: 7 :: 8 :: [])) rfl (by kernel_rfl) (by kernel_rfl) ?_
  apply parW_op (ds := [0]) rfl rfl rfl rfl (by kernel_rfl)
  · exact .inl ⟨(wt_none rfl), stepQ_pv (pv_move rfl rfl) rfl rfl⟩
  apply parW_op (ds := [5]) rfl rfl rfl rfl (by kernel_rfl)
  · exact .inl ⟨(wt_none rfl), stepQ_pv (pv_move rfl rfl) rfl rfl⟩
  apply parW_op (ds := [18, 19]) rfl rfl rfl rfl (by kernel_rfl)
  · exact .inl ⟨(wt_none rfl), stepQ_pv (pv_ix_t T0 rfl rfl rfl rfl (by omega) ixA) rfl rfl⟩
  apply parW_op (ds := [20]) rfl rfl rfl rfl (by kernel_rfl)
  · exact .inl ⟨(wt_none rfl), stepQ_lv (lv_elt_sc T0 rfl rfl rfl rfl) rfl rfl⟩
  apply parW_op (ds := [1]) rfl rfl rfl rfl (by kernel_rfl)
  · exact .inl ⟨(wt_none rfl), stepQ_pv (pv_move rfl rfl) rfl rfl⟩
  apply parW_op (ds := [5]) rfl rfl rfl rfl (by kernel_rfl)
  · exact .inl ⟨(wt_none rfl), stepQ_pv (pv_move rfl rfl) rfl rfl⟩
  apply parW_op (ds := [22, 23]) rfl rfl rfl rfl (by kernel_rfl)
  · exact .inl ⟨(wt_none rfl), stepQ_pv (pv_ix_t T0 rfl rfl rfl rfl (by omega) ixA) rfl rfl⟩
  apply parW_op (ds := [24]) rfl rfl rfl rfl (by kernel_rfl)
  · exact .inl ⟨(wt_none rfl), stepQ_lv (lv_elt_sc T0 rfl rfl rfl rfl) rfl rfl⟩
  apply parW_op (ds := [21, 25]) rfl rfl rfl rfl (by kernel_rfl)
  · exact .inl ⟨(wt_none rfl), stepQ_pv (pv_neq rfl rfl rfl) rfl rfl⟩
  refine parW_nil ?_
  exact cut_n ⟨rfl, rfl⟩ ssA rcA
theorem ka_5 (h1 : k < a.length) (h2 : k < c.length) (hl : a.length ≤ 1000000 ∧ c.length ≤ 1000000) {ops : Array Oper} (h : regF Try.f65 5 = some ops) :
    AWP Try.prog Try.f65.ntmps none (.region 5 ops true) (cutQ (fun s h => s = [(4, boolA (decide (a.getD k 0 < c.getD k 0)))] ∧ h = []))
      [(0, .t (intsT cp a)), (1, .t (intsT cp' c)), (5, intA k)] [] := by
  cases h
  refine awp_par T0 (l := (0 :: 1 :: 2 :: 3 :: 4 :: 5 :: 6 :: 7 :: 8 :: 9 :: [])) rfl (by kernel_rfl) (by kernel_rfl) ?_
  apply parW_op (ds := [0]) rfl rfl rfl rfl (by kernel_rfl)
  · exact .inl ⟨(wt_none rfl), stepQ_pv (pv_move rfl rfl) rfl rfl⟩
  apply parW_op (ds := [5]) rfl rfl rfl rfl (by kernel_rfl)
  · exact .inl ⟨(wt_none rfl), stepQ_pv (pv_move rfl rfl) rfl rfl⟩
  apply parW_op (ds := [27, 28]) rfl rfl rfl rfl (by kernel_rfl)
  · exact .inl ⟨(wt_none rfl), stepQ_pv (pv_ix_t T0 rfl rfl rfl rfl (by omega) ixA) rfl rfl⟩
  apply parW_op (ds := [29]) rfl rfl rfl rfl (by kernel_rfl)
  · exact .inl ⟨(wt_none rfl), stepQ_lv (lv_elt_sc T0 rfl rfl rfl rfl) rfl rfl⟩
  apply parW_op (ds := [1]) rfl rfl rfl rfl (by kernel_rfl)
  · exact .inl ⟨(wt_none rfl), stepQ_pv (pv_move rfl rfl) rfl rfl⟩
  apply parW_op (ds := [5]) rfl rfl rfl rfl (by kernel_rfl)
  · exact .inl ⟨(wt_none rfl), stepQ_pv (pv_move rfl rfl) rfl rfl⟩
  apply parW_op (ds := [31, 32]) rfl rfl rfl rfl (by kernel_rfl)
  · exact .inl ⟨(wt_none rfl), stepQ_pv (pv_ix_t T0 rfl rfl rfl rfl (by omega) ixA) rfl rfl⟩
  apply parW_op (ds := [33]) rfl rfl rfl rfl (by kernel_rfl)
  · exact .inl ⟨(wt_none rfl), stepQ_lv (lv_elt_sc T0 rfl rfl rfl rfl) rfl rfl⟩
  apply parW_op (ds := [30, 34]) rfl rfl rfl rfl (by kernel_rfl)
  · exact .inl ⟨(wt_none rfl), stepQ_pv (pv_lss rfl rfl rfl) rfl rfl⟩
  apply parW_op (ds := [35]) rfl rfl rfl rfl (by kernel_rfl)
  · exact .inl ⟨(wt_none rfl), stepQ_pv (pv_assign rfl rfl) rfl rfl⟩
  refine parW_nil ?_
  exact cut_n ⟨rfl, rfl⟩ ssA rcA
end
theorem before_p (cp cp' : Bool) (a c : List Int) (ha : a.length ≤ 1000000) (hc : c.length ≤ 1000000) : PCall Try.prog 65 [.t (intsT cp a), .t (intsT cp' c)] (fun r => r = boolA (lexB a c)) := by
  refine acall_of_awp T0 Try.func65 rfl rfl rfl ?_
  repeat (first | refine awp_seq ?_ | refine awp_block ?_ | refine awp_region_lit rfl ?_ | ((first | (show AWL _ _ _ (⟨_, .assign _, _, _, _, _⟩ :: _) _ _ _; refine awl_pw ?wtq (pv_assign rfl rfl) rfl rfl ?_)); case wtq => exact wtA) | refine awl_nil ?_)
  refine awp_loop (fun q s h => ∃ (k : Nat), k ≤ a.length ∧ k ≤ c.length ∧ q = a.length - k ∧ (∀ j, j < k → a.getD j 0 = c.getD j 0) ∧ s = [(0, .t (intsT cp a)), (1, .t (intsT cp' c)), (5, intA k)] ∧ h = []) ?_ ⟨0, Nat.zero_le _, Nat.zero_le _, rfl, (fun j hj => absurd hj (Nat.not_lt_zero _)), rfl, rfl⟩ ssA rcA
  rintro q s h ⟨k, hka, hkc, rfl, hpre, rfl, rfl⟩
  have hd := lexB_drop hka hkc hpre
  by_cases h1 : k < a.length
  case neg =>
    obtain rfl : k = a.length := by omega
    have d1 : decide (((a.length : Nat) : Int) < (a.length : Int)) = false := decide_eq_false (by omega)
    have hE : lexB a c = decide ((a.length : Int) < (c.length : Int)) := by
      rw [hd, List.drop_length]
      show decide (0 < (c.drop a.length).length) = _
      exact decide_eq_decide.2 (by rw [List.length_drop]; omega)
    rw [hE]
    repeat (first | refine awp_seq ?_ | refine awp_region_lit rfl ?_ | refine awp_exit ?_ | refine awp_ret ?_ | refine then_n ?_ | refine awp_cond_f rfl (by first | rfl | assumption | exact dF (by omega)) ?_ | ((first | (show AWL _ _ _ (⟨_, .move _, _, _, _, _⟩ :: _) _ _ _; refine awl_pw ?wtq (pv_move rfl rfl) rfl rfl ?_) | (show AWL _ _ _ (⟨_, .assign _, _, _, _, _⟩ :: _) _ _ _; refine awl_pw ?wtq (pv_assign rfl rfl) rfl rfl ?_) | (show AWL _ _ _ (⟨_, .binOp .lss _ _ _ _, _, _, _, _⟩ :: _) _ _ _; refine awl_pw ?wtq (pv_lss rfl rfl rfl) rfl rfl ?_) | (show AWL _ _ _ (⟨_, .call ⟨.builtin .len, _, _⟩, _, _, _, _⟩ :: _) _ _ _; refine awl_pw ?wtq (pv_len_t T0 rfl rfl rfl) rfl rfl ?_) | (show AWL _ _ _ (⟨_, .pick _ _ _, _, _, _, _⟩ :: _) _ _ _; refine awl_pw ?wtq (pv_pick_f rfl rfl tfA rfl) rfl rfl ?_)); case wtq => exact wtA) | refine awl_sk (wf_some rfl rfl rfl rfl tfA) rfl rfl ?_ | refine awl_nil ?_)
    exact body_p (.cons rfl .nil) rfl
  by_cases h2 : k < c.length
  case neg =>
    obtain rfl : k = c.length := by omega
    have d1 : decide (((c.length : Nat) : Int) < (a.length : Int)) = true := decide_eq_true (by omega)
    have d2 : decide (((c.length : Nat) : Int) < (c.length : Int)) = false := decide_eq_false (by omega)
    have hE : lexB a c = decide ((a.length : Int) < (c.length : Int)) := by
      rw [hd, List.drop_length, drop_getD h1]
      show false = _
      exact (decide_eq_false (by omega)).symm
    rw [hE]
    repeat (first | refine awp_seq ?_ | refine awp_region_lit rfl ?_ | refine awp_exit ?_ | refine awp_ret ?_ | refine then_n ?_ | refine awp_cond_f rfl (by first | rfl | assumption | exact dF (by omega)) ?_ | ((first | (show AWL _ _ _ (⟨_, .move _, _, _, _, _⟩ :: _) _ _ _; refine awl_pw ?wtq (pv_move rfl rfl) rfl rfl ?_) | (show AWL _ _ _ (⟨_, .assign _, _, _, _, _⟩ :: _) _ _ _; refine awl_pw ?wtq (pv_assign rfl rfl) rfl rfl ?_) | (show AWL _ _ _ (⟨_, .binOp .lss _ _ _ _, _, _, _, _⟩ :: _) _ _ _; refine awl_pw ?wtq (pv_lss rfl rfl rfl) rfl rfl ?_) | (show AWL _ _ _ (⟨_, .call ⟨.builtin .len, _, _⟩, _, _, _, _⟩ :: _) _ _ _; refine awl_pw ?wtq (pv_len_t T0 rfl rfl rfl) rfl rfl ?_) | (show AWL _ _ _ (⟨_, .pick _ _ _, _, _, _, _⟩ :: _) _ _ _; refine awl_pw ?wtq (pv_pick_t rfl rfl tfA rfl) rfl rfl ?_)); case wtq => exact wtA) | refine awl_nil ?_)
    exact body_p (.cons rfl .nil) rfl
  have d1 : decide ((k : Int) < (a.length : Int)) = true := decide_eq_true (by omega)
  have d2 : decide ((k : Int) < (c.length : Int)) = true := decide_eq_true (by omega)
  rw [drop_getD h1, drop_getD h2] at hd
  simp only [lexB] at hd
  by_cases e : a.getD k 0 = c.getD k 0
  · have d3 : decide (a.getD k 0 ≠ c.getD k 0) = false := decide_eq_false (fun h => h e)
    repeat (first | refine awp_seq ?_ | refine awp_block ?_ | refine awp_region_lit rfl ?_ | refine awp_skip ?_ | refine then_n ?_ | refine awp_cond_t rfl (by first | rfl | assumption | exact dT (by omega)) ?_ | ((first | (show AWL _ _ _ (⟨_, .move _, _, _, _, _⟩ :: _) _ _ _; refine awl_pw ?wtq (pv_move rfl rfl) rfl rfl ?_) | (show AWL _ _ _ (⟨_, .binOp .lss _ _ _ _, _, _, _, _⟩ :: _) _ _ _; refine awl_pw ?wtq (pv_lss rfl rfl rfl) rfl rfl ?_) | (show AWL _ _ _ (⟨_, .call ⟨.builtin .len, _, _⟩, _, _, _, _⟩ :: _) _ _ _; refine awl_pw ?wtq (pv_len_t T0 rfl rfl rfl) rfl rfl ?_) | (show AWL _ _ _ (⟨_, .pick _ _ _, _, _, _, _⟩ :: _) _ _ _; refine awl_pw ?wtq (pv_pick_t rfl rfl tfA rfl) rfl rfl ?_)); case wtq => exact wtA) | refine awl_nil ?_)
    refine awp_cut _ (awp_weak ssA rcA (ka_4 (cp := cp) (cp' := cp') h1 h2 ⟨ha, hc⟩ rfl)) ?_
    rintro s h ⟨rfl, rfl⟩
    repeat (first | refine awp_region_lit rfl ?_ | refine awp_skip ?_ | refine awp_cond_f rfl (by first | rfl | assumption | exact dF (by omega)) ?_ | ((first | (show AWL _ _ _ (⟨_, .move _, _, _, _, _⟩ :: _) _ _ _; refine awl_pw ?wtq (pv_move rfl rfl) rfl rfl ?_) | (show AWL _ _ _ (⟨_, .assign _, _, _, _, _⟩ :: _) _ _ _; refine awl_pw ?wtq (pv_assign rfl rfl) rfl rfl ?_) | (show AWL _ _ _ (⟨_, .binOp .add _ _ _ _, _, _, _, _⟩ :: _) _ _ _; refine awl_pw ?wtq (pv_add rfl rfl rfl (by first | assumption | exact wr64 (by omega))) rfl rfl ?_)); case wtq => exact wtA) | refine awl_nil ?_)
    refine rnd_n _ _ _ ?_ ⟨k + 1, h1, h2, rfl, (fun j hj => ?_), rfl, rfl⟩ ssA rcA
    · omega
    · by_cases e2 : j = k
      · subst e2; exact e
      · exact hpre j (by omega)
  · have d3 : decide (a.getD k 0 ≠ c.getD k 0) = true := decide_eq_true e
    rw [if_neg e] at hd
    rw [hd]
    repeat (first | refine awp_seq ?_ | refine awp_block ?_ | refine awp_region_lit rfl ?_ | refine awp_skip ?_ | refine then_n ?_ | refine awp_cond_t rfl (by first | rfl | assumption | exact dT (by omega)) ?_ | ((first | (show AWL _ _ _ (⟨_, .move _, _, _, _, _⟩ :: _) _ _ _; refine awl_pw ?wtq (pv_move rfl rfl) rfl rfl ?_) | (show AWL _ _ _ (⟨_, .binOp .lss _ _ _ _, _, _, _, _⟩ :: _) _ _ _; refine awl_pw ?wtq (pv_lss rfl rfl rfl) rfl rfl ?_) | (show AWL _ _ _ (⟨_, .call ⟨.builtin .len, _, _⟩, _, _, _, _⟩ :: _) _ _ _; refine awl_pw ?wtq (pv_len_t T0 rfl rfl rfl) rfl rfl ?_) | (show AWL _ _ _ (⟨_, .pick _ _ _, _, _, _, _⟩ :: _) _ _ _; refine awl_pw ?wtq (pv_pick_t rfl rfl tfA rfl) rfl rfl ?_)); case wtq => exact wtA) | refine awl_nil ?_)
    refine awp_cut _ (awp_weak ssA rcA (ka_4 (cp := cp) (cp' := cp') h1 h2 ⟨ha, hc⟩ rfl)) ?_
    rintro s h ⟨rfl, rfl⟩
    repeat (first | refine awp_seq ?_ | refine awp_cond_t rfl (by first | rfl | assumption | exact dT (by omega)) ?_)
    refine awp_cut _ (awp_weak ssA rcA (ka_5 (cp := cp) (cp' := cp') h1 h2 ⟨ha, hc⟩ rfl)) ?_
    rintro s h ⟨rfl, rfl⟩
    repeat (first | refine awp_ret ?_ | refine then_r ?_ | refine blk_r ?_ | refine rnd_r ?_)
    exact body_p (.cons rfl .nil) rfl
theorem same_q {cp cp' : Bool} {a c : List Int} {r : Bool} (ha : a.length ≤ 1000000) (hc : c.length ≤ 1000000) (hr : decide (a = c) = r) : PCall Try.prog 27 [.t (intsT cp a), .t (intsT cp' c)] (fun x => x = boolA r) := by
  subst hr
  refine acall_of_awp T0 Try.func27 rfl rfl rfl ?_
  by_cases h1 : a.length = c.length
  case neg =>
    have d1 : decide ((a.length : Int) = (c.length : Int)) = false := decide_eq_false (by omega)
    have hE : decide (a = c) = false := decide_eq_false (fun h => h1 (by rw [h]))
    rw [hE]
    repeat (first | refine awp_seq ?_ | refine awp_region_lit rfl ?_ | refine awp_ret ?_ | ((first | (show AWL _ _ _ (⟨_, .move _, _, _, _, _⟩ :: _) _ _ _; refine awl_pw ?wtq (pv_move rfl rfl) rfl rfl ?_) | (show AWL _ _ _ (⟨_, .assign _, _, _, _, _⟩ :: _) _ _ _; refine awl_pw ?wtq (pv_assign rfl rfl) rfl rfl ?_) | (show AWL _ _ _ (⟨_, .binOp .eql _ _ _ _, _, _, _, _⟩ :: _) _ _ _; refine awl_pw ?wtq (pv_eql rfl rfl rfl) rfl rfl ?_) | (show AWL _ _ _ (⟨_, .call ⟨.builtin .len, _, _⟩, _, _, _, _⟩ :: _) _ _ _; refine awl_pw ?wtq (pv_len_t T0 rfl rfl rfl) rfl rfl ?_) | (show AWL _ _ _ (⟨_, .pick _ _ _, _, _, _, _⟩ :: _) _ _ _; refine awl_pw ?wtq (pv_pick_f rfl rfl tfA rfl) rfl rfl ?_)); case wtq => exact wtA) | refine awl_sk (wf_some rfl rfl rfl rfl tfA) rfl rfl ?_ | refine awl_nil ?_)
    exact body_p (.cons rfl .nil) rfl
  have d1 : decide ((a.length : Int) = (c.length : Int)) = true := decide_eq_true (by omega)
  by_cases e : a = c
  · subst e
    have b1 := before_p cp cp' a a ha ha
    have b2 := before_p cp' cp a a ha ha
    rw [lexB_self] at b1 b2
    rw [decide_eq_true rfl]
    repeat (first | refine awp_seq ?_ | refine awp_region_lit rfl ?_ | ((first | (show AWL _ _ _ (⟨_, .move _, _, _, _, _⟩ :: _) _ _ _; refine awl_pw ?wtq (pv_move rfl rfl) rfl rfl ?_) | (show AWL _ _ _ (⟨_, .assign _, _, _, _, _⟩ :: _) _ _ _; refine awl_pw ?wtq (pv_assign rfl rfl) rfl rfl ?_) | (show AWL _ _ _ (⟨_, .binOp .eql _ _ _ _, _, _, _, _⟩ :: _) _ _ _; refine awl_pw ?wtq (pv_eql rfl rfl rfl) rfl rfl ?_) | (show AWL _ _ _ (⟨_, .call ⟨.builtin .len, _, _⟩, _, _, _, _⟩ :: _) _ _ _; refine awl_pw ?wtq (pv_len_t T0 rfl rfl rfl) rfl rfl ?_)); case wtq => exact wtA) | refine awl_nil ?_)
    refine awl_hw wtA (st_call T0 (b1) rfl rfl rfl rfl (by first | exact callee_lit | exact callee_v | exact callee_fn | assumption) rcA raA rfl ?_)
    rintro _ rfl
    repeat (first | ((first | (show AWL _ _ _ (⟨_, .move _, _, _, _, _⟩ :: _) _ _ _; refine awl_pw ?wtq (pv_move rfl rfl) rfl rfl ?_) | (show AWL _ _ _ (⟨_, .unOp .not _ _, _, _, _, _⟩ :: _) _ _ _; refine awl_pw ?wtq (pv_not rfl rfl) rfl rfl ?_) | (show AWL _ _ _ (⟨_, .pick _ _ _, _, _, _, _⟩ :: _) _ _ _; refine awl_pw ?wtq (pv_pick_t rfl rfl tfA rfl) rfl rfl ?_)); case wtq => exact wtA))
    refine awl_hw wtA (st_call T0 (b2) rfl rfl rfl rfl (by first | exact callee_lit | exact callee_v | exact callee_fn | assumption) rcA raA rfl ?_)
    rintro _ rfl
    repeat (first | refine awp_ret ?_ | ((first | (show AWL _ _ _ (⟨_, .assign _, _, _, _, _⟩ :: _) _ _ _; refine awl_pw ?wtq (pv_assign rfl rfl) rfl rfl ?_) | (show AWL _ _ _ (⟨_, .unOp .not _ _, _, _, _, _⟩ :: _) _ _ _; refine awl_pw ?wtq (pv_not rfl rfl) rfl rfl ?_) | (show AWL _ _ _ (⟨_, .pick _ _ _, _, _, _, _⟩ :: _) _ _ _; refine awl_pw ?wtq (pv_pick_t rfl rfl tfA rfl) rfl rfl ?_)); case wtq => exact wtA) | refine awl_nil ?_)
    exact body_p (.cons rfl .nil) rfl
  have b1 := before_p cp cp' a c ha hc
  have b2 := before_p cp' cp c a hc ha
  rw [decide_eq_false e]
  cases c1 : lexB a c
  · have c2 : lexB c a = true := (lexB_tri e).resolve_left (by rw [c1]; simp)
    rw [c1] at b1
    rw [c2] at b2
    repeat (first | refine awp_seq ?_ | refine awp_region_lit rfl ?_ | ((first | (show AWL _ _ _ (⟨_, .move _, _, _, _, _⟩ :: _) _ _ _; refine awl_pw ?wtq (pv_move rfl rfl) rfl rfl ?_) | (show AWL _ _ _ (⟨_, .assign _, _, _, _, _⟩ :: _) _ _ _; refine awl_pw ?wtq (pv_assign rfl rfl) rfl rfl ?_) | (show AWL _ _ _ (⟨_, .binOp .eql _ _ _ _, _, _, _, _⟩ :: _) _ _ _; refine awl_pw ?wtq (pv_eql rfl rfl rfl) rfl rfl ?_) | (show AWL _ _ _ (⟨_, .call ⟨.builtin .len, _, _⟩, _, _, _, _⟩ :: _) _ _ _; refine awl_pw ?wtq (pv_len_t T0 rfl rfl rfl) rfl rfl ?_)); case wtq => exact wtA) | refine awl_nil ?_)
    refine awl_hw wtA (st_call T0 (b1) rfl rfl rfl rfl (by first | exact callee_lit | exact callee_v | exact callee_fn | assumption) rcA raA rfl ?_)
    rintro _ rfl
    repeat (first | ((first | (show AWL _ _ _ (⟨_, .move _, _, _, _, _⟩ :: _) _ _ _; refine awl_pw ?wtq (pv_move rfl rfl) rfl rfl ?_) | (show AWL _ _ _ (⟨_, .unOp .not _ _, _, _, _, _⟩ :: _) _ _ _; refine awl_pw ?wtq (pv_not rfl rfl) rfl rfl ?_) | (show AWL _ _ _ (⟨_, .pick _ _ _, _, _, _, _⟩ :: _) _ _ _; refine awl_pw ?wtq (pv_pick_t rfl rfl tfA rfl) rfl rfl ?_)); case wtq => exact wtA))
    refine awl_hw wtA (st_call T0 (b2) rfl rfl rfl rfl (by first | exact callee_lit | exact callee_v | exact callee_fn | assumption) rcA raA rfl ?_)
    rintro _ rfl
    repeat (first | refine awp_ret ?_ | ((first | (show AWL _ _ _ (⟨_, .assign _, _, _, _, _⟩ :: _) _ _ _; refine awl_pw ?wtq (pv_assign rfl rfl) rfl rfl ?_) | (show AWL _ _ _ (⟨_, .unOp .not _ _, _, _, _, _⟩ :: _) _ _ _; refine awl_pw ?wtq (pv_not rfl rfl) rfl rfl ?_) | (show AWL _ _ _ (⟨_, .pick _ _ _, _, _, _, _⟩ :: _) _ _ _; refine awl_pw ?wtq (pv_pick_t rfl rfl tfA rfl) rfl rfl ?_)); case wtq => exact wtA) | refine awl_nil ?_)
    exact body_p (.cons rfl .nil) rfl
  · rw [c1] at b1
    repeat (first | refine awp_seq ?_ | refine awp_region_lit rfl ?_ | ((first | (show AWL _ _ _ (⟨_, .move _, _, _, _, _⟩ :: _) _ _ _; refine awl_pw ?wtq (pv_move rfl rfl) rfl rfl ?_) | (show AWL _ _ _ (⟨_, .assign _, _, _, _, _⟩ :: _) _ _ _; refine awl_pw ?wtq (pv_assign rfl rfl) rfl rfl ?_) | (show AWL _ _ _ (⟨_, .binOp .eql _ _ _ _, _, _, _, _⟩ :: _) _ _ _; refine awl_pw ?wtq (pv_eql rfl rfl rfl) rfl rfl ?_) | (show AWL _ _ _ (⟨_, .call ⟨.builtin .len, _, _⟩, _, _, _, _⟩ :: _) _ _ _; refine awl_pw ?wtq (pv_len_t T0 rfl rfl rfl) rfl rfl ?_)); case wtq => exact wtA) | refine awl_nil ?_)
    refine awl_hw wtA (st_call T0 (b1) rfl rfl rfl rfl (by first | exact callee_lit | exact callee_v | exact callee_fn | assumption) rcA raA rfl ?_)
    rintro _ rfl
    repeat (first | refine awp_ret ?_ | ((first | (show AWL _ _ _ (⟨_, .move _, _, _, _, _⟩ :: _) _ _ _; refine awl_pw ?wtq (pv_move rfl rfl) rfl rfl ?_) | (show AWL _ _ _ (⟨_, .assign _, _, _, _, _⟩ :: _) _ _ _; refine awl_pw ?wtq (pv_assign rfl rfl) rfl rfl ?_) | (show AWL _ _ _ (⟨_, .unOp .not _ _, _, _, _, _⟩ :: _) _ _ _; refine awl_pw ?wtq (pv_not rfl rfl) rfl rfl ?_) | (show AWL _ _ _ (⟨_, .pick _ _ _, _, _, _, _⟩ :: _) _ _ _; refine awl_pw ?wtq (pv_pick_t rfl rfl tfA rfl) rfl rfl ?_) | (show AWL _ _ _ (⟨_, .pick _ _ _, _, _, _, _⟩ :: _) _ _ _; refine awl_pw ?wtq (pv_pick_f rfl rfl tfA rfl) rfl rfl ?_)); case wtq => exact wtA) | refine awl_sk (wf_some rfl rfl rfl rfl tfA) rfl rfl ?_ | refine awl_nil ?_)
    exact body_p (.cons rfl .nil) rfl
theorem shorter_q {cp cp' : Bool} {a c : List Int} {r : Bool} (ha : a.length ≤ 1000000) (hc : c.length ≤ 1000000) (hr : shortB a c = r) : PCall Try.prog 55 [.t (intsT cp a), .t (intsT cp' c)] (fun x => x = boolA r) := by
  subst hr
  refine acall_of_awp T0 Try.func55 rfl rfl rfl ?_
  unfold shortB
  by_cases h1 : a.length < c.length
  · have d1 : decide ((a.length : Int) < (c.length : Int)) = true := decide_eq_true (by omega)
    rw [decide_eq_true h1, Bool.true_or]
    repeat (first | refine awp_seq ?_ | refine awp_region_lit rfl ?_ | refine awp_ret ?_ | ((first | (show AWL _ _ _ (⟨_, .move _, _, _, _, _⟩ :: _) _ _ _; refine awl_pw ?wtq (pv_move rfl rfl) rfl rfl ?_) | (show AWL _ _ _ (⟨_, .assign _, _, _, _, _⟩ :: _) _ _ _; refine awl_pw ?wtq (pv_assign rfl rfl) rfl rfl ?_) | (show AWL _ _ _ (⟨_, .binOp .lss _ _ _ _, _, _, _, _⟩ :: _) _ _ _; refine awl_pw ?wtq (pv_lss rfl rfl rfl) rfl rfl ?_) | (show AWL _ _ _ (⟨_, .call ⟨.builtin .len, _, _⟩, _, _, _, _⟩ :: _) _ _ _; refine awl_pw ?wtq (pv_len_t T0 rfl rfl rfl) rfl rfl ?_) | (show AWL _ _ _ (⟨_, .pick _ _ _, _, _, _, _⟩ :: _) _ _ _; refine awl_pw ?wtq (pv_pick_t rfl rfl tfA rfl) rfl rfl ?_)); case wtq => exact wtA) | refine awl_sk (wf_some rfl rfl rfl rfl tfA) rfl rfl ?_ | refine awl_sku (wu_some rfl rfl rfl rfl) rfl rfl ?_ | refine awl_nil ?_)
    exact body_p (.cons rfl .nil) rfl
  have d1 : decide ((a.length : Int) < (c.length : Int)) = false := decide_eq_false (by omega)
  rw [decide_eq_false h1, Bool.false_or]
  by_cases h2 : a.length = c.length
  · have d2 : decide ((a.length : Int) = (c.length : Int)) = true := decide_eq_true (by omega)
    rw [decide_eq_true h2, Bool.true_and]
    repeat (first | refine awp_seq ?_ | refine awp_region_lit rfl ?_ | ((first | (show AWL _ _ _ (⟨_, .move _, _, _, _, _⟩ :: _) _ _ _; refine awl_pw ?wtq (pv_move rfl rfl) rfl rfl ?_) | (show AWL _ _ _ (⟨_, .assign _, _, _, _, _⟩ :: _) _ _ _; refine awl_pw ?wtq (pv_assign rfl rfl) rfl rfl ?_) | (show AWL _ _ _ (⟨_, .binOp .lss _ _ _ _, _, _, _, _⟩ :: _) _ _ _; refine awl_pw ?wtq (pv_lss rfl rfl rfl) rfl rfl ?_) | (show AWL _ _ _ (⟨_, .binOp .eql _ _ _ _, _, _, _, _⟩ :: _) _ _ _; refine awl_pw ?wtq (pv_eql rfl rfl rfl) rfl rfl ?_) | (show AWL _ _ _ (⟨_, .call ⟨.builtin .len, _, _⟩, _, _, _, _⟩ :: _) _ _ _; refine awl_pw ?wtq (pv_len_t T0 rfl rfl rfl) rfl rfl ?_)); case wtq => exact wtA) | refine awl_nil ?_)
    refine awl_hw wtA (st_call T0 (before_p cp cp' a c ha hc) rfl rfl rfl rfl (by first | exact callee_lit | exact callee_v | exact callee_fn | assumption) rcA raA rfl ?_)
    rintro _ rfl
    repeat (first | refine awp_ret ?_ | ((first | (show AWL _ _ _ (⟨_, .assign _, _, _, _, _⟩ :: _) _ _ _; refine awl_pw ?wtq (pv_assign rfl rfl) rfl rfl ?_) | (show AWL _ _ _ (⟨_, .pick _ _ _, _, _, _, _⟩ :: _) _ _ _; refine awl_pw ?wtq (pv_pick_t rfl rfl tfA rfl) rfl rfl ?_) | (show AWL _ _ _ (⟨_, .pick _ _ _, _, _, _, _⟩ :: _) _ _ _; refine awl_pw ?wtq (pv_pick_f rfl rfl tfA rfl) rfl rfl ?_)); case wtq => exact wtA) | refine awl_nil ?_)
    exact body_p (.cons rfl .nil) rfl
  · have d2 : decide ((a.length : Int) = (c.length : Int)) = false := decide_eq_false (by omega)
    rw [decide_eq_false h2, Bool.false_and]
    repeat (first | refine awp_seq ?_ | refine awp_region_lit rfl ?_ | refine awp_ret ?_ | ((first | (show AWL _ _ _ (⟨_, .move _, _, _, _, _⟩ :: _) _ _ _; refine awl_pw ?wtq (pv_move rfl rfl) rfl rfl ?_) | (show AWL _ _ _ (⟨_, .assign _, _, _, _, _⟩ :: _) _ _ _; refine awl_pw ?wtq (pv_assign rfl rfl) rfl rfl ?_) | (show AWL _ _ _ (⟨_, .binOp .lss _ _ _ _, _, _, _, _⟩ :: _) _ _ _; refine awl_pw ?wtq (pv_lss rfl rfl rfl) rfl rfl ?_) | (show AWL _ _ _ (⟨_, .binOp .eql _ _ _ _, _, _, _, _⟩ :: _) _ _ _; refine awl_pw ?wtq (pv_eql rfl rfl rfl) rfl rfl ?_) | (show AWL _ _ _ (⟨_, .call ⟨.builtin .len, _, _⟩, _, _, _, _⟩ :: _) _ _ _; refine awl_pw ?wtq (pv_len_t T0 rfl rfl rfl) rfl rfl ?_) | (show AWL _ _ _ (⟨_, .pick _ _ _, _, _, _, _⟩ :: _) _ _ _; refine awl_pw ?wtq (pv_pick_f rfl rfl tfA rfl) rfl rfl ?_)); case wtq => exact wtA) | refine awl_sk (wf_some rfl rfl rfl rfl tfA) rfl rfl ?_ | refine awl_nil ?_)
    exact body_p (.cons rfl .nil) rfl
end Go.Proofs.Ytallicfckbdeaaa
