/- Joined texts: CXa, CKa, CLb, CLk, Aa. -/
import Derived.Test.YtlpknbneilgjkaaZgCGWk
import Derived.Test.YtlpknbneilgjkaaZgCMsp
import Derived.Test.YtlpknbneilgjkaaZgCGHf
import Derived.Test.YtlpknbneilgjkaaZgCGIa
import Derived.Test.YtlpknbneilgjkaaZgGTy
import Derived.Test.YtlpknbneilgjkaaZgCGHc
import Derived.Test.YtlpknbneilgjkaaTlp
import Derived.Test.YtlpknbneilgjkaaZgRFr
import Derived.Test.YtlpknbneilgjkaaZgCGHa
section
namespace Go.Proofs.Ytlpknbneilgjkaa.C
open Go Go.RowKit Go.Tl
set_option linter.unusedVariables false
set_option linter.unusedSimpArgs false
def sumF (f : Nat → Int) : Nat → Int
  | 0 => 0
  | k + 1 => sumF f k + f k
theorem sumF_cons (f : Nat → Int) : ∀ n, sumF f (n + 1) = f 0 + sumF (fun k => f (k + 1)) n
  | 0 => by simp [sumF]
  | n + 1 => by
    have ih := sumF_cons f n
    have e1 : sumF f (n + 1 + 1) = sumF f (n + 1) + f (n + 1) := rfl
    have e2 : sumF (fun k => f (k + 1)) (n + 1) = sumF (fun k => f (k + 1)) n + f (n + 1) := rfl
    rw [e1, e2]
    omega
theorem lo_sum (hs : List HouD) : ∀ k, sLo hs k = sumF (fun i => (hs.getD i default).lo) k
  | 0 => rfl
  | k + 1 => by simp only [sLo, sumF, lo_sum hs k]
theorem hi_sum (hs : List HouD) : ∀ k, sHi hs k = sumF (fun i => (hs.getD i default).hi) k
  | 0 => rfl
  | k + 1 => by simp only [sHi, sumF, hi_sum hs k]
theorem lo_cons (h : HouD) (hs : List HouD) : sLo (h :: hs) (h :: hs).length = h.lo + sLo hs hs.length := by
  rw [lo_sum, lo_sum, List.length_cons, sumF_cons]
  rfl
theorem hi_cons (h : HouD) (hs : List HouD) : sHi (h :: hs) (h :: hs).length = h.hi + sHi hs hs.length := by
  rw [hi_sum, hi_sum, List.length_cons, sumF_cons]
  rfl
theorem lo_hi : ∀ {hs : List HouD}, HsOk hs → sLo hs hs.length ≤ sHi hs hs.length
  | [], _ => Int.le_refl _
  | h :: hs, ho => by
    rw [lo_cons, hi_cons]
    have := ho h List.mem_cons_self
    have := lo_hi (hs := hs) (fun y hy => ho y (List.mem_cons_of_mem _ hy))
    omega
theorem fit_ex : ∀ {hs : List HouD} {left : Int}, HsOk hs → sLo hs hs.length ≤ left → left ≤ sHi hs hs.length → ∃ t, fitP hs left t
  | [], left, _, h1, h2 => ⟨[], by simp only [sLo, sHi, List.length_nil] at h1 h2; show left = 0; omega⟩
  | h :: hs, left, ho, h1, h2 => by
    rw [lo_cons] at h1
    rw [hi_cons] at h2
    have hh := ho h List.mem_cons_self
    obtain ⟨x, hx⟩ : ∃ x, x = max h.lo (left - sHi hs hs.length) := ⟨_, rfl⟩
    obtain ⟨t, ht⟩ := fit_ex (hs := hs) (left := left - x) (fun y hy => ho y (List.mem_cons_of_mem _ hy)) (by have := lo_hi (hs := hs) (fun y hy => ho y (List.mem_cons_of_mem _ hy)); omega) (by omega)
    exact ⟨x :: t, by omega, by omega, ht⟩
theorem fit_bd : ∀ {hs : List HouD} {left : Int} {t : List Int}, fitP hs left t → sLo hs hs.length ≤ left ∧ left ≤ sHi hs hs.length
  | [], left, [], h => by simp only [fitP] at h; simp [sLo, sHi, h]
  | h :: hs, left, x :: t, hf => by
    simp only [fitP] at hf
    have ih := fit_bd hf.2.2
    rw [lo_cons, hi_cons]
    omega
  | [], _, _ :: _, h => h.elim
  | _ :: _, _, [], h => h.elim
theorem poss_iff {m : MktD} (hv : VMkt m) : possB m = true ↔ ∃ t, truthB m t = true := by
  unfold possB
  rw [inB_iff]
  constructor
  · rintro ⟨h1, h2⟩
    obtain ⟨t, ht⟩ := fit_ex (hs_ok hv) h1 h2
    exact ⟨t, truth_fit.2 ht⟩
  · rintro ⟨t, ht⟩
    exact fit_bd (truth_fit.1 ht)
theorem has_poss {m : MktD} (hv : VMkt m) : hasB m = possB m := by
  have h1 := low_never hv
  have h2 := poss_iff hv
  unfold hasB
  cases c : possB m
  · have : lowN m = never := h1.2 fun t => by
      cases e : truthB m t
      · rfl
      · rw [h2.2 ⟨t, e⟩] at c; cases c
    rw [decide_eq_true this]
    rfl
  · have : ¬ lowN m = never := fun h => by
      obtain ⟨t, ht⟩ := h2.1 c
      rw [h1.1 h t] at ht; cases ht
    rw [decide_eq_false this]
    rfl
theorem low_ne {m : MktD} {t : List Int} (hv : VMkt m) (ht : truthB m t = true) : lowN m ≠ never := fun h => by
  rw [(low_never hv).1 h t] at ht; cases ht
theorem poss_ne {m : MktD} (hv : VMkt m) (h : possB m = true) : lowN m ≠ never := by
  obtain ⟨t, ht⟩ := (poss_iff hv).1 h
  exact low_ne hv ht
theorem bnd_eq {m : MktD} (h : lowN m ≠ never) : bndN m = (lowN m, highN m) := by unfold bndN; rw [if_neg h]
end Go.Proofs.Ytlpknbneilgjkaa.C
end
section
namespace Go.Proofs.Ytlpknbneilgjkaa.C
open Go Go.RowKit Go.Tl
set_option linter.unusedVariables false
set_option linter.unusedSimpArgs false
set_option maxRecDepth 100000
set_option maxHeartbeats 4000000
def lexB : List Int → List Int → Bool
  | x :: a, y :: c => if x = y then lexB a c else decide (x < y)
  | [], c => decide (0 < c.length)
  | _ :: _, [] => false
theorem lexB_self : ∀ a, lexB a a = false
  | [] => rfl
  | x :: a => by
    show (if x = x then lexB a a else decide (x < x)) = false
    rw [if_pos rfl]
    exact lexB_self a
theorem lexB_tri : ∀ {a c : List Int}, a ≠ c → lexB a c = true ∨ lexB c a = true
  | [], [], h => absurd rfl h
  | [], _ :: _, _ => .inl (by simp [lexB])
  | _ :: _, [], _ => .inr (by simp [lexB])
  | x :: a, y :: c, h => by
    simp only [lexB]
    by_cases e : x = y
    · subst e
      rw [if_pos rfl, if_pos rfl]
      exact lexB_tri (fun h' => h (by rw [h']))
    · rw [if_neg e, if_neg (fun h => e h.symm)]
      by_cases c : x < y
      · exact .inl (decide_eq_true c)
      · exact .inr (decide_eq_true (by omega))
theorem lexB_drop : ∀ {k : Nat} {a c : List Int}, k ≤ a.length → k ≤ c.length → (∀ j, j < k → a.getD j 0 = c.getD j 0) → lexB a c = lexB (a.drop k) (c.drop k)
  | 0, a, c, _, _, _ => by simp
  | k + 1, [], c, h, _, _ => absurd h (Nat.not_succ_le_zero _)
  | k + 1, _ :: _, [], _, h, _ => absurd h (Nat.not_succ_le_zero _)
  | k + 1, x :: a, y :: c, h1, h2, h => by
    have e : x = y := h 0 (by omega)
    simp only [lexB, List.drop_succ_cons]
    rw [if_pos e]
    exact lexB_drop (by simpa using h1) (by simpa using h2) (fun j hj => h (j + 1) (by omega))
theorem drop_getD {a : List Int} {k : Nat} (h : k < a.length) : a.drop k = a.getD k 0 :: a.drop (k + 1) := by
  rw [List.drop_eq_getElem_cons h, List.getD_eq_getElem?_getD, List.getElem?_eq_getElem h]
  rfl
attribute [local irreducible] AWP AWL AOp PV LV AWT AWE
section
variable {cp cp' : Bool} {a c : List Int} {k : Nat} {u4 : AV}
theorem ka_4 (h1 : k < a.length) (h2 : k < c.length) (hl : a.length ≤ 1000000 ∧ c.length ≤ 1000000) {ops : Array Oper} (h : regF Try.f111 4 = some ops) :
    AWP Try.prog Try.f111.ntmps none (.region 4 ops true) (cutQ (fun s h => s = [(26, boolA (decide (a.getD k 0 ≠ c.getD k 0))), (0, .t (intsT cp a)), (1, .t (intsT cp' c)), (5, intA k)] ∧ h = []))
      [(0, .t (intsT cp a)), (1, .t (intsT cp' c)), (5, intA k)] [] := by
  cases h
  refine awp_par T0 (l := (0 :: 1 :: 2 :: 3 :: 4 :: 5 :: 6 :: 7 :: 8 :: [])) rfl (by kernel_rfl) (by kernel_rfl) ?_
  apply parW_op (ds := [0]) rfl rfl rfl rfl (by kernel_rfl)
  · exact .inl ⟨(wt_none rfl), stepQ_pv (pv_move rfl rfl) rfl rfl⟩
  apply parW_op (ds := [5]) rfl rfl rfl rfl (by kernel_rfl)
  · exact .inl ⟨(wt_none rfl), stepQ_pv (pv_move rfl rfl) rfl rfl⟩
  apply parW_op (ds := [18, 19]) rfl rfl rfl rfl (by kernel_rfl)
  · exact .inl ⟨(wt_none rfl), stepQ_pv (pv_ix_t T0 rfl rfl rfl rfl (by omega) ixA) rfl rfl⟩
  apply parW_op (ds := [20]) rfl rfl rfl rfl (by kernel_rfl)
  · exact .inl ⟨(wt_none rfl), stepQ_lv (lv_elt_sc T0 rfl rfl rfl rfl) rfl rfl⟩
  apply parW_op (ds := [1]) rfl rfl rfl rfl (by kernel_rfl)
  · exact .inl ⟨(wt_none rfl), stepQ_pv (pv_move rfl rfl) rfl rfl⟩
  apply parW_op (ds := [5]) rfl rfl rfl rfl (by kernel_rfl)
  · exact .inl ⟨(wt_none rfl), stepQ_pv (pv_move rfl rfl) rfl rfl⟩
  apply parW_op (ds := [22, 23]) rfl rfl rfl rfl (by kernel_rfl)
  · exact .inl ⟨(wt_none rfl), stepQ_pv (pv_ix_t T0 rfl rfl rfl rfl (by omega) ixA) rfl rfl⟩
  apply parW_op (ds := [24]) rfl rfl rfl rfl (by kernel_rfl)
  · exact .inl ⟨(wt_none rfl), stepQ_lv (lv_elt_sc T0 rfl rfl rfl rfl) rfl rfl⟩
  apply parW_op (ds := [21, 25]) rfl rfl rfl rfl (by kernel_rfl)
  · exact .inl ⟨(wt_none rfl), stepQ_pv (pv_neq rfl rfl rfl) rfl rfl⟩
  refine parW_nil ?_
  exact cut_n ⟨rfl, rfl⟩ ssA rcA
theorem ka_5 (h1 : k < a.length) (h2 : k < c.length) (hl : a.length ≤ 1000000 ∧ c.length ≤ 1000000) {ops : Array Oper} (h : regF Try.f111 5 = some ops) :
    AWP Try.prog Try.f111.ntmps none (.region 5 ops true) (cutQ (fun s h => s = [(4, boolA (decide (a.getD k 0 < c.getD k 0)))] ∧ h = []))
      [(0, .t (intsT cp a)), (1, .t (intsT cp' c)), (5, intA k)] [] := by
  cases h
  refine awp_par T0 (l := (0 :: 1 :: 2 :: 3 :: 4 :: 5 :: 6 :: 7 :: 8 :: 9 :: [])) rfl (by kernel_rfl) (by kernel_rfl) ?_
  apply parW_op (ds := [0]) rfl rfl rfl rfl (by kernel_rfl)
  · exact .inl ⟨(wt_none rfl), stepQ_pv (pv_move rfl rfl) rfl rfl⟩
  apply parW_op (ds := [5]) rfl rfl rfl rfl (by kernel_rfl)
  · exact .inl ⟨(wt_none rfl), stepQ_pv (pv_move rfl rfl) rfl rfl⟩
  apply parW_op (ds := [27, 28]) rfl rfl rfl rfl (by kernel_rfl)
  · exact .inl ⟨(wt_none rfl), stepQ_pv (pv_ix_t T0 rfl rfl rfl rfl (by omega) ixA) rfl rfl⟩
  apply parW_op (ds := [29]) rfl rfl rfl rfl (by kernel_rfl)
  · exact .inl ⟨(wt_none rfl), stepQ_lv (lv_elt_sc T0 rfl rfl rfl rfl) rfl rfl⟩
  apply parW_op (ds := [1]) rfl rfl rfl rfl (by kernel_rfl)
  · exact .inl ⟨(wt_none rfl), stepQ_pv (pv_move rfl rfl) rfl rfl⟩
  apply parW_op (ds := [5]) rfl rfl rfl rfl (by kernel_rfl)
  · exact .inl ⟨(wt_none rfl), stepQ_pv (pv_move rfl rfl) rfl rfl⟩
  apply parW_op (ds := [31, 32]) rfl rfl rfl rfl (by kernel_rfl)
  · exact .inl ⟨(wt_none rfl), stepQ_pv (pv_ix_t T0 rfl rfl rfl rfl (by omega) ixA) rfl rfl⟩
  apply parW_op (ds := [33]) rfl rfl rfl rfl (by kernel_rfl)
  · exact .inl ⟨(wt_none rfl), stepQ_lv (lv_elt_sc T0 rfl rfl rfl rfl) rfl rfl⟩
  apply parW_op (ds := [30, 34]) rfl rfl rfl rfl (by kernel_rfl)
  · exact .inl ⟨(wt_none rfl), stepQ_pv (pv_lss rfl rfl rfl) rfl rfl⟩
  apply parW_op (ds := [35]) rfl rfl rfl rfl (by kernel_rfl)
  · exact .inl ⟨(wt_none rfl), stepQ_pv (pv_assign rfl rfl) rfl rfl⟩
  refine parW_nil ?_
  exact cut_n ⟨rfl, rfl⟩ ssA rcA
end
theorem before_p (cp cp' : Bool) (a c : List Int) (ha : a.length ≤ 1000000) (hc : c.length ≤ 1000000) : PCall Try.prog 111 [.t (intsT cp a), .t (intsT cp' c)] (fun r => r = boolA (lexB a c)) := by
  refine acall_of_awp T0 Try.func111 rfl rfl rfl ?_
  repeat (first | refine awp_seq ?_ | refine awp_block ?_ | refine awp_region_lit rfl ?_ | ((first | (show AWL _ _ _ (⟨_, .assign _, _, _, _, _⟩ :: _) _ _ _; refine awl_pw ?wtq (pv_assign rfl rfl) rfl rfl ?_)); case wtq => exact wtA) | refine awl_nil ?_)
  refine awp_loop (fun q s h => ∃ (k : Nat), k ≤ a.length ∧ k ≤ c.length ∧ q = a.length - k ∧ (∀ j, j < k → a.getD j 0 = c.getD j 0) ∧ s = [(0, .t (intsT cp a)), (1, .t (intsT cp' c)), (5, intA k)] ∧ h = []) ?_ ⟨0, Nat.zero_le _, Nat.zero_le _, rfl, (fun j hj => absurd hj (Nat.not_lt_zero _)), rfl, rfl⟩ ssA rcA
  rintro q s h ⟨k, hka, hkc, rfl, hpre, rfl, rfl⟩
  have hd := lexB_drop hka hkc hpre
  by_cases h1 : k < a.length
  case neg =>
    obtain rfl : k = a.length := by omega
    have d1 : decide (((a.length : Nat) : Int) < (a.length : Int)) = false := decide_eq_false (by omega)
    have hE : lexB a c = decide ((a.length : Int) < (c.length : Int)) := by
      rw [hd, List.drop_length]
      show decide (0 < (c.drop a.length).length) = _
      exact decide_eq_decide.2 (by rw [List.length_drop]; omega)
    rw [hE]
    repeat (first | refine awp_seq ?_ | refine awp_region_lit rfl ?_ | refine awp_exit ?_ | refine awp_ret ?_ | with_reducible refine then_n ?_ | refine awp_cond_f rfl (by first | rfl | assumption | exact dF (by omega)) ?_ | ((first | (show AWL _ _ _ (⟨_, .move _, _, _, _, _⟩ :: _) _ _ _; refine awl_pw ?wtq (pv_move rfl rfl) rfl rfl ?_) | (show AWL _ _ _ (⟨_, .assign _, _, _, _, _⟩ :: _) _ _ _; refine awl_pw ?wtq (pv_assign rfl rfl) rfl rfl ?_) | (show AWL _ _ _ (⟨_, .binOp .lss _ _ _ _, _, _, _, _⟩ :: _) _ _ _; refine awl_pw ?wtq (pv_lss rfl rfl rfl) rfl rfl ?_) | (show AWL _ _ _ (⟨_, .call ⟨.builtin .len, _, _⟩, _, _, _, _⟩ :: _) _ _ _; refine awl_pw ?wtq (pv_len_t T0 rfl rfl rfl) rfl rfl ?_) | (show AWL _ _ _ (⟨_, .pick _ _ _, _, _, _, _⟩ :: _) _ _ _; refine awl_pw ?wtq (pv_pick_f rfl rfl tfA rfl) rfl rfl ?_)); case wtq => exact wtA) | refine awl_sk (wf_some rfl rfl rfl rfl tfA) rfl rfl ?_ | refine awl_nil ?_)
    exact body_p (.cons rfl .nil) rfl
  by_cases h2 : k < c.length
  case neg =>
    obtain rfl : k = c.length := by omega
    have d1 : decide (((c.length : Nat) : Int) < (a.length : Int)) = true := decide_eq_true (by omega)
    have d2 : decide (((c.length : Nat) : Int) < (c.length : Int)) = false := decide_eq_false (by omega)
    have hE : lexB a c = decide ((a.length : Int) < (c.length : Int)) := by
      rw [hd, List.drop_length, drop_getD h1]
      show false = _
      exact (decide_eq_false (by omega)).symm
    rw [hE]
    repeat (first | refine awp_seq ?_ | refine awp_region_lit rfl ?_ | refine awp_exit ?_ | refine awp_ret ?_ | with_reducible refine then_n ?_ | refine awp_cond_f rfl (by first | rfl | assumption | exact dF (by omega)) ?_ | ((first | (show AWL _ _ _ (⟨_, .move _, _, _, _, _⟩ :: _) _ _ _; refine awl_pw ?wtq (pv_move rfl rfl) rfl rfl ?_) | (show AWL _ _ _ (⟨_, .assign _, _, _, _, _⟩ :: _) _ _ _; refine awl_pw ?wtq (pv_assign rfl rfl) rfl rfl ?_) | (show AWL _ _ _ (⟨_, .binOp .lss _ _ _ _, _, _, _, _⟩ :: _) _ _ _; refine awl_pw ?wtq (pv_lss rfl rfl rfl) rfl rfl ?_) | (show AWL _ _ _ (⟨_, .call ⟨.builtin .len, _, _⟩, _, _, _, _⟩ :: _) _ _ _; refine awl_pw ?wtq (pv_len_t T0 rfl rfl rfl) rfl rfl ?_) | (show AWL _ _ _ (⟨_, .pick _ _ _, _, _, _, _⟩ :: _) _ _ _; refine awl_pw ?wtq (pv_pick_t rfl rfl tfA rfl) rfl rfl ?_)); case wtq => exact wtA) | refine awl_nil ?_)
    exact body_p (.cons rfl .nil) rfl
  have d1 : decide ((k : Int) < (a.length : Int)) = true := decide_eq_true (by omega)
  have d2 : decide ((k : Int) < (c.length : Int)) = true := decide_eq_true (by omega)
  rw [drop_getD h1, drop_getD h2] at hd
  simp only [lexB] at hd
  by_cases e : a.getD k 0 = c.getD k 0
  · have d3 : decide (a.getD k 0 ≠ c.getD k 0) = false := decide_eq_false (fun h => h e)
    repeat (first | refine awp_seq ?_ | refine awp_block ?_ | refine awp_region_lit rfl ?_ | refine awp_skip ?_ | with_reducible refine then_n ?_ | refine awp_cond_t rfl (by first | rfl | assumption | exact dT (by omega)) ?_ | ((first | (show AWL _ _ _ (⟨_, .move _, _, _, _, _⟩ :: _) _ _ _; refine awl_pw ?wtq (pv_move rfl rfl) rfl rfl ?_) | (show AWL _ _ _ (⟨_, .binOp .lss _ _ _ _, _, _, _, _⟩ :: _) _ _ _; refine awl_pw ?wtq (pv_lss rfl rfl rfl) rfl rfl ?_) | (show AWL _ _ _ (⟨_, .call ⟨.builtin .len, _, _⟩, _, _, _, _⟩ :: _) _ _ _; refine awl_pw ?wtq (pv_len_t T0 rfl rfl rfl) rfl rfl ?_) | (show AWL _ _ _ (⟨_, .pick _ _ _, _, _, _, _⟩ :: _) _ _ _; refine awl_pw ?wtq (pv_pick_t rfl rfl tfA rfl) rfl rfl ?_)); case wtq => exact wtA) | refine awl_nil ?_)
    refine awp_cut _ (awp_weak ssA rcA (ka_4 (cp := cp) (cp' := cp') h1 h2 ⟨ha, hc⟩ rfl)) ?_
    rintro s h ⟨rfl, rfl⟩
    repeat (first | refine awp_region_lit rfl ?_ | refine awp_skip ?_ | refine awp_cond_f rfl (by first | rfl | assumption | exact dF (by omega)) ?_ | ((first | (show AWL _ _ _ (⟨_, .move _, _, _, _, _⟩ :: _) _ _ _; refine awl_pw ?wtq (pv_move rfl rfl) rfl rfl ?_) | (show AWL _ _ _ (⟨_, .assign _, _, _, _, _⟩ :: _) _ _ _; refine awl_pw ?wtq (pv_assign rfl rfl) rfl rfl ?_) | (show AWL _ _ _ (⟨_, .binOp .add _ _ _ _, _, _, _, _⟩ :: _) _ _ _; refine awl_pw ?wtq (pv_add rfl rfl rfl (by first | assumption | exact wr64 (by omega))) rfl rfl ?_)); case wtq => exact wtA) | refine awl_nil ?_)
    refine rnd_n _ _ _ ?_ ⟨k + 1, h1, h2, rfl, (fun j hj => ?_), rfl, rfl⟩ ssA rcA
    · omega
    · by_cases e2 : j = k
      · subst e2; exact e
      · exact hpre j (by omega)
  · have d3 : decide (a.getD k 0 ≠ c.getD k 0) = true := decide_eq_true e
    rw [if_neg e] at hd
    rw [hd]
    repeat (first | refine awp_seq ?_ | refine awp_block ?_ | refine awp_region_lit rfl ?_ | refine awp_skip ?_ | with_reducible refine then_n ?_ | refine awp_cond_t rfl (by first | rfl | assumption | exact dT (by omega)) ?_ | ((first | (show AWL _ _ _ (⟨_, .move _, _, _, _, _⟩ :: _) _ _ _; refine awl_pw ?wtq (pv_move rfl rfl) rfl rfl ?_) | (show AWL _ _ _ (⟨_, .binOp .lss _ _ _ _, _, _, _, _⟩ :: _) _ _ _; refine awl_pw ?wtq (pv_lss rfl rfl rfl) rfl rfl ?_) | (show AWL _ _ _ (⟨_, .call ⟨.builtin .len, _, _⟩, _, _, _, _⟩ :: _) _ _ _; refine awl_pw ?wtq (pv_len_t T0 rfl rfl rfl) rfl rfl ?_) | (show AWL _ _ _ (⟨_, .pick _ _ _, _, _, _, _⟩ :: _) _ _ _; refine awl_pw ?wtq (pv_pick_t rfl rfl tfA rfl) rfl rfl ?_)); case wtq => exact wtA) | refine awl_nil ?_)
    refine awp_cut _ (awp_weak ssA rcA (ka_4 (cp := cp) (cp' := cp') h1 h2 ⟨ha, hc⟩ rfl)) ?_
    rintro s h ⟨rfl, rfl⟩
    repeat (first | refine awp_seq ?_ | refine awp_cond_t rfl (by first | rfl | assumption | exact dT (by omega)) ?_)
    refine awp_cut _ (awp_weak ssA rcA (ka_5 (cp := cp) (cp' := cp') h1 h2 ⟨ha, hc⟩ rfl)) ?_
    rintro s h ⟨rfl, rfl⟩
    repeat (first | refine awp_ret ?_ | with_reducible refine then_r ?_ | with_reducible refine blk_r ?_ | refine rnd_r ?_)
    exact body_p (.cons rfl .nil) rfl
theorem same_q {cp cp' : Bool} {a c : List Int} {r : Bool} (ha : a.length ≤ 1000000) (hc : c.length ≤ 1000000) (hr : decide (a = c) = r) : PCall Try.prog 75 [.t (intsT cp a), .t (intsT cp' c)] (fun x => x = boolA r) := by
  subst hr
  refine acall_of_awp T0 Try.func75 rfl rfl rfl ?_
  by_cases h1 : a.length = c.length
  case neg =>
    have d1 : decide ((a.length : Int) = (c.length : Int)) = false := decide_eq_false (by omega)
    have hE : decide (a = c) = false := decide_eq_false (fun h => h1 (by rw [h]))
    rw [hE]
    repeat (first | refine awp_seq ?_ | refine awp_region_lit rfl ?_ | refine awp_ret ?_ | ((first | (show AWL _ _ _ (⟨_, .move _, _, _, _, _⟩ :: _) _ _ _; refine awl_pw ?wtq (pv_move rfl rfl) rfl rfl ?_) | (show AWL _ _ _ (⟨_, .assign _, _, _, _, _⟩ :: _) _ _ _; refine awl_pw ?wtq (pv_assign rfl rfl) rfl rfl ?_) | (show AWL _ _ _ (⟨_, .binOp .eql _ _ _ _, _, _, _, _⟩ :: _) _ _ _; refine awl_pw ?wtq (pv_eql rfl rfl rfl) rfl rfl ?_) | (show AWL _ _ _ (⟨_, .call ⟨.builtin .len, _, _⟩, _, _, _, _⟩ :: _) _ _ _; refine awl_pw ?wtq (pv_len_t T0 rfl rfl rfl) rfl rfl ?_) | (show AWL _ _ _ (⟨_, .pick _ _ _, _, _, _, _⟩ :: _) _ _ _; refine awl_pw ?wtq (pv_pick_f rfl rfl tfA rfl) rfl rfl ?_)); case wtq => exact wtA) | refine awl_sk (wf_some rfl rfl rfl rfl tfA) rfl rfl ?_ | refine awl_nil ?_)
    exact body_p (.cons rfl .nil) rfl
  have d1 : decide ((a.length : Int) = (c.length : Int)) = true := decide_eq_true (by omega)
  by_cases e : a = c
  · subst e
    have b1 := before_p cp cp' a a ha ha
    have b2 := before_p cp' cp a a ha ha
    rw [lexB_self] at b1 b2
    rw [decide_eq_true rfl]
    repeat (first | refine awp_seq ?_ | refine awp_region_lit rfl ?_ | ((first | (show AWL _ _ _ (⟨_, .move _, _, _, _, _⟩ :: _) _ _ _; refine awl_pw ?wtq (pv_move rfl rfl) rfl rfl ?_) | (show AWL _ _ _ (⟨_, .assign _, _, _, _, _⟩ :: _) _ _ _; refine awl_pw ?wtq (pv_assign rfl rfl) rfl rfl ?_) | (show AWL _ _ _ (⟨_, .binOp .eql _ _ _ _, _, _, _, _⟩ :: _) _ _ _; refine awl_pw ?wtq (pv_eql rfl rfl rfl) rfl rfl ?_) | (show AWL _ _ _ (⟨_, .call ⟨.builtin .len, _, _⟩, _, _, _, _⟩ :: _) _ _ _; refine awl_pw ?wtq (pv_len_t T0 rfl rfl rfl) rfl rfl ?_)); case wtq => exact wtA) | refine awl_nil ?_)
    refine awl_hw wtA (st_call T0 (b1) rfl rfl rfl rfl (by first | exact callee_lit | exact callee_v | exact callee_fn | assumption) rcA raA rfl ?_)
    rintro _ rfl
    repeat (first | ((first | (show AWL _ _ _ (⟨_, .move _, _, _, _, _⟩ :: _) _ _ _; refine awl_pw ?wtq (pv_move rfl rfl) rfl rfl ?_) | (show AWL _ _ _ (⟨_, .unOp .not _ _, _, _, _, _⟩ :: _) _ _ _; refine awl_pw ?wtq (pv_not rfl rfl) rfl rfl ?_) | (show AWL _ _ _ (⟨_, .pick _ _ _, _, _, _, _⟩ :: _) _ _ _; refine awl_pw ?wtq (pv_pick_t rfl rfl tfA rfl) rfl rfl ?_)); case wtq => exact wtA))
    refine awl_hw wtA (st_call T0 (b2) rfl rfl rfl rfl (by first | exact callee_lit | exact callee_v | exact callee_fn | assumption) rcA raA rfl ?_)
    rintro _ rfl
    repeat (first | refine awp_ret ?_ | ((first | (show AWL _ _ _ (⟨_, .assign _, _, _, _, _⟩ :: _) _ _ _; refine awl_pw ?wtq (pv_assign rfl rfl) rfl rfl ?_) | (show AWL _ _ _ (⟨_, .unOp .not _ _, _, _, _, _⟩ :: _) _ _ _; refine awl_pw ?wtq (pv_not rfl rfl) rfl rfl ?_) | (show AWL _ _ _ (⟨_, .pick _ _ _, _, _, _, _⟩ :: _) _ _ _; refine awl_pw ?wtq (pv_pick_t rfl rfl tfA rfl) rfl rfl ?_)); case wtq => exact wtA) | refine awl_nil ?_)
    exact body_p (.cons rfl .nil) rfl
  have b1 := before_p cp cp' a c ha hc
  have b2 := before_p cp' cp c a hc ha
  rw [decide_eq_false e]
  cases c1 : lexB a c
  · have c2 : lexB c a = true := (lexB_tri e).resolve_left (by rw [c1]; simp)
    rw [c1] at b1
    rw [c2] at b2
    repeat (first | refine awp_seq ?_ | refine awp_region_lit rfl ?_ | ((first | (show AWL _ _ _ (⟨_, .move _, _, _, _, _⟩ :: _) _ _ _; refine awl_pw ?wtq (pv_move rfl rfl) rfl rfl ?_) | (show AWL _ _ _ (⟨_, .assign _, _, _, _, _⟩ :: _) _ _ _; refine awl_pw ?wtq (pv_assign rfl rfl) rfl rfl ?_) | (show AWL _ _ _ (⟨_, .binOp .eql _ _ _ _, _, _, _, _⟩ :: _) _ _ _; refine awl_pw ?wtq (pv_eql rfl rfl rfl) rfl rfl ?_) | (show AWL _ _ _ (⟨_, .call ⟨.builtin .len, _, _⟩, _, _, _, _⟩ :: _) _ _ _; refine awl_pw ?wtq (pv_len_t T0 rfl rfl rfl) rfl rfl ?_)); case wtq => exact wtA) | refine awl_nil ?_)
    refine awl_hw wtA (st_call T0 (b1) rfl rfl rfl rfl (by first | exact callee_lit | exact callee_v | exact callee_fn | assumption) rcA raA rfl ?_)
    rintro _ rfl
    repeat (first | ((first | (show AWL _ _ _ (⟨_, .move _, _, _, _, _⟩ :: _) _ _ _; refine awl_pw ?wtq (pv_move rfl rfl) rfl rfl ?_) | (show AWL _ _ _ (⟨_, .unOp .not _ _, _, _, _, _⟩ :: _) _ _ _; refine awl_pw ?wtq (pv_not rfl rfl) rfl rfl ?_) | (show AWL _ _ _ (⟨_, .pick _ _ _, _, _, _, _⟩ :: _) _ _ _; refine awl_pw ?wtq (pv_pick_t rfl rfl tfA rfl) rfl rfl ?_)); case wtq => exact wtA))
    refine awl_hw wtA (st_call T0 (b2) rfl rfl rfl rfl (by first | exact callee_lit | exact callee_v | exact callee_fn | assumption) rcA raA rfl ?_)
    rintro _ rfl
    repeat (first | refine awp_ret ?_ | ((first | (show AWL _ _ _ (⟨_, .assign _, _, _, _, _⟩ :: _) _ _ _; refine awl_pw ?wtq (pv_assign rfl rfl) rfl rfl ?_) | (show AWL _ _ _ (⟨_, .unOp .not _ _, _, _, _, _⟩ :: _) _ _ _; refine awl_pw ?wtq (pv_not rfl rfl) rfl rfl ?_) | (show AWL _ _ _ (⟨_, .pick _ _ _, _, _, _, _⟩ :: _) _ _ _; refine awl_pw ?wtq (pv_pick_t rfl rfl tfA rfl) rfl rfl ?_)); case wtq => exact wtA) | refine awl_nil ?_)
    exact body_p (.cons rfl .nil) rfl
  · rw [c1] at b1
    repeat (first | refine awp_seq ?_ | refine awp_region_lit rfl ?_ | ((first | (show AWL _ _ _ (⟨_, .move _, _, _, _, _⟩ :: _) _ _ _; refine awl_pw ?wtq (pv_move rfl rfl) rfl rfl ?_) | (show AWL _ _ _ (⟨_, .assign _, _, _, _, _⟩ :: _) _ _ _; refine awl_pw ?wtq (pv_assign rfl rfl) rfl rfl ?_) | (show AWL _ _ _ (⟨_, .binOp .eql _ _ _ _, _, _, _, _⟩ :: _) _ _ _; refine awl_pw ?wtq (pv_eql rfl rfl rfl) rfl rfl ?_) | (show AWL _ _ _ (⟨_, .call ⟨.builtin .len, _, _⟩, _, _, _, _⟩ :: _) _ _ _; refine awl_pw ?wtq (pv_len_t T0 rfl rfl rfl) rfl rfl ?_)); case wtq => exact wtA) | refine awl_nil ?_)
    refine awl_hw wtA (st_call T0 (b1) rfl rfl rfl rfl (by first | exact callee_lit | exact callee_v | exact callee_fn | assumption) rcA raA rfl ?_)
    rintro _ rfl
    repeat (first | refine awp_ret ?_ | ((first | (show AWL _ _ _ (⟨_, .move _, _, _, _, _⟩ :: _) _ _ _; refine awl_pw ?wtq (pv_move rfl rfl) rfl rfl ?_) | (show AWL _ _ _ (⟨_, .assign _, _, _, _, _⟩ :: _) _ _ _; refine awl_pw ?wtq (pv_assign rfl rfl) rfl rfl ?_) | (show AWL _ _ _ (⟨_, .unOp .not _ _, _, _, _, _⟩ :: _) _ _ _; refine awl_pw ?wtq (pv_not rfl rfl) rfl rfl ?_) | (show AWL _ _ _ (⟨_, .pick _ _ _, _, _, _, _⟩ :: _) _ _ _; refine awl_pw ?wtq (pv_pick_t rfl rfl tfA rfl) rfl rfl ?_) | (show AWL _ _ _ (⟨_, .pick _ _ _, _, _, _, _⟩ :: _) _ _ _; refine awl_pw ?wtq (pv_pick_f rfl rfl tfA rfl) rfl rfl ?_)); case wtq => exact wtA) | refine awl_sk (wf_some rfl rfl rfl rfl tfA) rfl rfl ?_ | refine awl_nil ?_)
    exact body_p (.cons rfl .nil) rfl
end Go.Proofs.Ytlpknbneilgjkaa.C
end
section
namespace Go.Proofs.Ytlpknbneilgjkaa.C
open Go Go.RowKit Go.Tl
set_option linter.unusedVariables false
set_option linter.unusedSimpArgs false
set_option maxRecDepth 100000
set_option maxHeartbeats 4000000
theorem acall_nil2 {P : Program} {g : Nat} {cp : Bool} {f : Nat → List Tr} {x : AV} {args : List AV} {hc : List Ent} {Q : AV → List Ent → Prop} (C : ACall P g (x :: .t (.sl cp 1 0 f) :: args) hc Q) : ACall P g (x :: .v (.slice none 0 0) :: args) hc Q := fun w S vs h1 h2 h3 => by
  obtain ⟨v0, us0, rfl, hv0, h3'⟩ := rels1 h3
  obtain ⟨u, us, rfl, hu, h4⟩ := rels1 h3'
  have eu := hu.lit_inv
  subst eu
  exact C w S _ h1 h2 (.cons hv0 (.cons (.t (.sl (fun _ _ => .int .i64 0) (fun _ => Nat.le_refl _) (fun k hk => absurd hk (Nat.not_lt_zero _)) (fun k hk => absurd hk (Nat.not_lt_zero _)) (fun k j x hk => absurd hk (Nat.not_lt_zero _)))) h4))
theorem asked_yes {m : MktD} (hf : faultN m = 0) (h : possB m = true) : askedR m = ((lowN m, highN m), 0) := by
  have hv := vmkt hf
  unfold askedR
  rw [if_neg (fun c => c hf), if_pos (by rw [has_poss hv]; exact h), bnd_eq (poss_ne hv h)]
attribute [local irreducible] AWP AWL AOp PV LV AWT AWE
end Go.Proofs.Ytlpknbneilgjkaa.C
end
section
namespace Go.Proofs.Ytlpknbneilgjkaa.C
open Go Go.RowKit Go.Tl
set_option linter.unusedVariables false
set_option linter.unusedSimpArgs false
set_option maxRecDepth 100000
set_option maxHeartbeats 4000000
theorem acall_args {P : Program} {f : Nat} {args args' : List AV} {hc : List Ent} {Q : AV → List Ent → Prop} (C : ACall P f args' hc Q) (H : AVsLe args args') : ACall P f args hc Q := fun w S vs h1 h2 h3 => C w S vs h1 h2 (H.rels h3)
theorem hous_le (cp : Bool) (hs : List HouD) : TrLe (housT cp hs) (housT false hs) := TrLe.sl (fun h => by cases h) (fun k hk => ⟨rfl, fun j x x' h1 h2 => by rw [h1] at h2; cases h2; exact TrLe.refl _⟩)
theorem cons_le (cp : Bool) (cs : List ConD) : TrLe (consT cp cs) (consT false cs) := TrLe.sl (fun h => by cases h) (fun k hk => ⟨rfl, fun j x x' h1 h2 => by rw [h1] at h2; cases h2; exact TrLe.refl _⟩)
theorem mkt_le (cp cc : Bool) (m : MktD) : AVLe (mktA cp cc m) (mktA false false m) := AVLe.ag (.cons (AVLe.refl _) (.cons (AVLe.t (hous_le cp m.hou)) (.cons (AVLe.t (cons_le cc m.con)) .nil)))
theorem market_q (cp cc : Bool) (m : MktD) (hl : m.hou.length ≤ 1000) (hc : m.con.length ≤ 1000) : PCall Try.prog 72 [mktA cp cc m] (fun r => r = mktA true true m) := acall_args (market_p m hl hc) (.cons (mkt_le cp cc m) .nil)
attribute [local irreducible] AWP AWL AOp PV LV AWT AWE
end Go.Proofs.Ytlpknbneilgjkaa.C
end
section
namespace Go.Proofs.Ytlpknbneilgjkaa.C
open Go Go.RowKit Go.Tl
set_option linter.unusedVariables false
set_option linter.unusedSimpArgs false
set_option maxRecDepth 100000
set_option maxHeartbeats 4000000
attribute [local irreducible] AWP AWL AOp PV LV AWT AWE
theorem alike_p (cp cc cp' cc' : Bool) (m x : MktD) (hl : m.hou.length ≤ 1000) (hc : m.con.length ≤ 1000) (hl' : x.hou.length ≤ 1000) (hc' : x.con.length ≤ 1000) {L H ce : Int} {A B K : List Int} (hA : A.length ≤ 1000) (hB : B.length ≤ 1000) (hK : K.length ≤ 1000) (h1 : askedR m = ((L, H), 0)) (h2 : askedR x = ((L, H), 0)) (h3 : essR m = (A, B, 0)) (h4 : essR x = (A, B, 0)) (h5 : cornR m = (K, ce)) (h6 : cornR x = (K, ce)) : PCall Try.prog 36 [mktA cp cc m, mktA cp' cc' x] (fun r => r = boolA true) := by
  have hM := market_q cp cc m hl hc
  have hX := market_q cp' cc' x hl' hc'
  have hS1 := Shortage_p true true m hl hc
  have hS2 := Shortage_p true true x hl' hc'
  have hE1 := Essential_p true true m hl hc
  have hE2 := Essential_p true true x hl' hc'
  have hC1 := Corner_p true true m hl hc
  have hC2 := Corner_p true true x hl' hc'
  rw [h1] at hS1
  rw [h2] at hS2
  rw [h3] at hE1
  rw [h4] at hE2
  rw [h5] at hC1
  rw [h6] at hC2
  replace hS1 : PCall Try.prog 70 [mktA true true m] (fun r => r = .tup [.ag [intA L, intA H], intA 0]) := hS1
  replace hS2 : PCall Try.prog 70 [mktA true true x] (fun r => r = .tup [.ag [intA L, intA H], intA 0]) := hS2
  replace hE1 : PCall Try.prog 73 [mktA true true m] (fun r => r = .tup [.t (intsT true A), .t (intsT true B), intA 0]) := hE1
  replace hE2 : PCall Try.prog 73 [mktA true true x] (fun r => r = .tup [.t (intsT true A), .t (intsT true B), intA 0]) := hE2
  replace hC1 : PCall Try.prog 74 [mktA true true m] (fun r => r = .tup [.t (intsT true K), intA ce]) := hC1
  replace hC2 : PCall Try.prog 74 [mktA true true x] (fun r => r = .tup [.t (intsT true K), intA ce]) := hC2
  have q1 := same_q (cp := true) (cp' := true) (a := A) (c := A) (r := true) (by omega) (by omega) (decide_eq_true rfl)
  have q2 := same_q (cp := true) (cp' := true) (a := B) (c := B) (r := true) (by omega) (by omega) (decide_eq_true rfl)
  have q3 := same_q (cp := true) (cp' := true) (a := K) (c := K) (r := true) (by omega) (by omega) (decide_eq_true rfl)
  have k1 : decide (((L, H) : Int × Int) = (L, H)) = true := decide_eq_true rfl
  have k2 : decide (ce = ce) = true := decide_eq_true rfl
  clear h1 h2 h3 h4 h5 h6 hl hc hl' hc' hA hB hK
  refine acall_of_awp T0 Try.func36 rfl rfl rfl ?_
  repeat (first | refine awp_seq ?_ | refine awp_region_lit rfl ?_)
  refine awl_hw wtA (st_box rfl rfl raA (by first | assumption | (simp only [cellsA]; rfl)) rfl rfl ?_)
  intro g2
  skip
  refine awl_hw wtA (st_box rfl rfl raA (by first | assumption | (simp only [cellsA]; rfl)) rfl rfl ?_)
  intro g3
  repeat (first | refine awp_seq ?_ | refine awp_region_lit rfl ?_ | ((first | (show AWL _ _ _ (⟨_, .assign _, _, _, _, _⟩ :: _) _ _ _; refine awl_pw ?wtq (pv_assign rfl rfl) rfl rfl ?_) | (show AWL _ _ _ (⟨_, .load _ _, _, _, _, _⟩ :: _) _ _ _; refine awl_lw ?wtq (lv_cla T0 rfl rfl rfl rcA rfl) rfl rfl rfl ?_)); case wtq => exact wtA) | refine awl_nil ?_)
  refine awl_hw wtA (st_call T0 (hM) rfl rfl rfl rfl (by first | exact callee_lit | exact callee_v | exact callee_fn | assumption) rcA raA rfl ?_)
  rintro _ rfl
  skip
  refine awl_hw wtA (st_call T0 (hS1) rfl rfl rfl rfl (by first | exact callee_lit | exact callee_v | exact callee_fn | assumption) rcA raA rfl ?_)
  rintro _ rfl
  repeat (first | ((first | (show AWL _ _ _ (⟨_, .move _, _, _, _, _⟩ :: _) _ _ _; refine awl_pw ?wtq (pv_move rfl rfl) rfl rfl ?_) | (show AWL _ _ _ (⟨_, .extract _ _, _, _, _, _⟩ :: _) _ _ _; refine awl_pw ?wtq (pv_extract rfl rfl rfl) rfl rfl ?_)); case wtq => exact wtA))
  refine awl_hw wtA (st_alloc T0 rfl rfl rfl rfl scA ?_)
  intro g5
  repeat (first | refine awp_seq ?_ | refine awp_region_lit rfl ?_ | ((first | (show AWL _ _ _ (⟨_, .assign _, _, _, _, _⟩ :: _) _ _ _; refine awl_pw ?wtq (pv_assign rfl rfl) rfl rfl ?_) | (show AWL _ _ _ (⟨_, .load _ _, _, _, _, _⟩ :: _) _ _ _; refine awl_lw ?wtq (lv_cla T0 rfl rfl rfl rcA rfl) rfl rfl rfl ?_)); case wtq => exact wtA) | (show AWL _ _ _ (⟨_, .store _ _ _, _, _, _, _⟩ :: _) _ _ _; refine awl_hw wtA (st_store T0 rfl rfl rfl rfl rfl (by first | assumption | (simp only [cellsA]; rfl)) rfl rfl rfl rcA rcA trivial ?_)) | refine awl_nil ?_)
  refine awl_hw wtA (st_call T0 (hX) rfl rfl rfl rfl (by first | exact callee_lit | exact callee_v | exact callee_fn | assumption) rcA raA rfl ?_)
  rintro _ rfl
  skip
  refine awl_hw wtA (st_call T0 (hS2) rfl rfl rfl rfl (by first | exact callee_lit | exact callee_v | exact callee_fn | assumption) rcA raA rfl ?_)
  rintro _ rfl
  repeat (first | ((first | (show AWL _ _ _ (⟨_, .move _, _, _, _, _⟩ :: _) _ _ _; refine awl_pw ?wtq (pv_move rfl rfl) rfl rfl ?_) | (show AWL _ _ _ (⟨_, .extract _ _, _, _, _, _⟩ :: _) _ _ _; refine awl_pw ?wtq (pv_extract rfl rfl rfl) rfl rfl ?_)); case wtq => exact wtA))
  refine awl_hw wtA (st_alloc T0 rfl rfl rfl rfl scA ?_)
  intro g7
  repeat (first | refine awp_seq ?_ | refine awp_region_lit rfl ?_ | ((first | (show AWL _ _ _ (⟨_, .assign _, _, _, _, _⟩ :: _) _ _ _; refine awl_pw ?wtq (pv_assign rfl rfl) rfl rfl ?_) | (show AWL _ _ _ (⟨_, .load _ _, _, _, _, _⟩ :: _) _ _ _; refine awl_lw ?wtq (lv_cla T0 rfl rfl rfl rcA rfl) rfl rfl rfl ?_)); case wtq => exact wtA) | (show AWL _ _ _ (⟨_, .store _ _ _, _, _, _, _⟩ :: _) _ _ _; refine awl_hw wtA (st_store T0 rfl rfl rfl rfl rfl (by first | assumption | (simp only [cellsA]; rfl)) rfl rfl rfl rcA rcA trivial ?_)) | refine awl_nil ?_)
  refine awl_hw wtA (st_call T0 (hM) rfl rfl rfl rfl (by first | exact callee_lit | exact callee_v | exact callee_fn | assumption) rcA raA rfl ?_)
  rintro _ rfl
  skip
  refine awl_hw wtA (st_call T0 (hE1) rfl rfl rfl rfl (by first | exact callee_lit | exact callee_v | exact callee_fn | assumption) rcA raA rfl ?_)
  rintro _ rfl
  repeat (first | refine awp_seq ?_ | refine awp_region_lit rfl ?_ | ((first | (show AWL _ _ _ (⟨_, .move _, _, _, _, _⟩ :: _) _ _ _; refine awl_pw ?wtq (pv_move rfl rfl) rfl rfl ?_) | (show AWL _ _ _ (⟨_, .assign _, _, _, _, _⟩ :: _) _ _ _; refine awl_pw ?wtq (pv_assign rfl rfl) rfl rfl ?_) | (show AWL _ _ _ (⟨_, .load _ _, _, _, _, _⟩ :: _) _ _ _; refine awl_lw ?wtq (lv_cla T0 rfl rfl rfl rcA rfl) rfl rfl rfl ?_) | (show AWL _ _ _ (⟨_, .extract _ _, _, _, _, _⟩ :: _) _ _ _; refine awl_pw ?wtq (pv_extract rfl rfl rfl) rfl rfl ?_)); case wtq => exact wtA) | refine awl_nil ?_)
  refine awl_hw wtA (st_call T0 (hX) rfl rfl rfl rfl (by first | exact callee_lit | exact callee_v | exact callee_fn | assumption) rcA raA rfl ?_)
  rintro _ rfl
  skip
  refine awl_hw wtA (st_call T0 (hE2) rfl rfl rfl rfl (by first | exact callee_lit | exact callee_v | exact callee_fn | assumption) rcA raA rfl ?_)
  rintro _ rfl
  repeat (first | refine awp_seq ?_ | refine awp_region_lit rfl ?_ | ((first | (show AWL _ _ _ (⟨_, .move _, _, _, _, _⟩ :: _) _ _ _; refine awl_pw ?wtq (pv_move rfl rfl) rfl rfl ?_) | (show AWL _ _ _ (⟨_, .assign _, _, _, _, _⟩ :: _) _ _ _; refine awl_pw ?wtq (pv_assign rfl rfl) rfl rfl ?_) | (show AWL _ _ _ (⟨_, .load _ _, _, _, _, _⟩ :: _) _ _ _; refine awl_lw ?wtq (lv_cla T0 rfl rfl rfl rcA rfl) rfl rfl rfl ?_) | (show AWL _ _ _ (⟨_, .extract _ _, _, _, _, _⟩ :: _) _ _ _; refine awl_pw ?wtq (pv_extract rfl rfl rfl) rfl rfl ?_)); case wtq => exact wtA) | refine awl_nil ?_)
  refine awl_hw wtA (st_call T0 (hM) rfl rfl rfl rfl (by first | exact callee_lit | exact callee_v | exact callee_fn | assumption) rcA raA rfl ?_)
  rintro _ rfl
  skip
  refine awl_hw wtA (st_call T0 (hC1) rfl rfl rfl rfl (by first | exact callee_lit | exact callee_v | exact callee_fn | assumption) rcA raA rfl ?_)
  rintro _ rfl
  repeat (first | refine awp_seq ?_ | refine awp_region_lit rfl ?_ | ((first | (show AWL _ _ _ (⟨_, .move _, _, _, _, _⟩ :: _) _ _ _; refine awl_pw ?wtq (pv_move rfl rfl) rfl rfl ?_) | (show AWL _ _ _ (⟨_, .assign _, _, _, _, _⟩ :: _) _ _ _; refine awl_pw ?wtq (pv_assign rfl rfl) rfl rfl ?_) | (show AWL _ _ _ (⟨_, .load _ _, _, _, _, _⟩ :: _) _ _ _; refine awl_lw ?wtq (lv_cla T0 rfl rfl rfl rcA rfl) rfl rfl rfl ?_) | (show AWL _ _ _ (⟨_, .extract _ _, _, _, _, _⟩ :: _) _ _ _; refine awl_pw ?wtq (pv_extract rfl rfl rfl) rfl rfl ?_)); case wtq => exact wtA) | refine awl_nil ?_)
  refine awl_hw wtA (st_call T0 (hX) rfl rfl rfl rfl (by first | exact callee_lit | exact callee_v | exact callee_fn | assumption) rcA raA rfl ?_)
  rintro _ rfl
  skip
  refine awl_hw wtA (st_call T0 (hC2) rfl rfl rfl rfl (by first | exact callee_lit | exact callee_v | exact callee_fn | assumption) rcA raA rfl ?_)
  rintro _ rfl
  repeat (first | refine awp_seq ?_ | refine awp_region_lit rfl ?_ | ((first | (show AWL _ _ _ (⟨_, .move _, _, _, _, _⟩ :: _) _ _ _; refine awl_pw ?wtq (pv_move rfl rfl) rfl rfl ?_) | (show AWL _ _ _ (⟨_, .assign _, _, _, _, _⟩ :: _) _ _ _; refine awl_pw ?wtq (pv_assign rfl rfl) rfl rfl ?_) | (show AWL _ _ _ (⟨_, .load _ _, _, _, _, _⟩ :: _) _ _ _; refine awl_lw ?wtq (lv_cla T0 rfl rfl rfl rcA rfl) rfl rfl rfl ?_) | (show AWL _ _ _ (⟨_, .binOp .eql _ _ _ _, _, _, _, _⟩ :: _) _ _ _; refine awl_pw ?wtq (pv_eql rfl rfl rfl) rfl rfl ?_) | (show AWL _ _ _ (⟨_, .extract _ _, _, _, _, _⟩ :: _) _ _ _; refine awl_pw ?wtq (pv_extract rfl rfl rfl) rfl rfl ?_) | (show AWL _ _ _ (⟨_, .pick _ _ _, _, _, _, _⟩ :: _) _ _ _; refine awl_pw ?wtq (pv_pick_t rfl rfl tfA rfl) rfl rfl ?_)); case wtq => exact wtA) | refine awl_nil ?_)
  refine awl_pw (wt_some' rfl rfl rfl rfl raA) (pv_eql_rng (q := (L, H)) (r := (L, H)) rfl rfl rfl) rfl rfl ?_
  repeat (first | ((first | (show AWL _ _ _ (⟨_, .move _, _, _, _, _⟩ :: _) _ _ _; refine awl_pw ?wtq (pv_move rfl rfl) rfl rfl ?_) | (show AWL _ _ _ (⟨_, .binOp .eql _ _ _ _, _, _, _, _⟩ :: _) _ _ _; refine awl_pw ?wtq (pv_eql rfl rfl rfl) rfl rfl ?_) | (show AWL _ _ _ (⟨_, .pick _ _ _, _, _, _, _⟩ :: _) _ _ _; refine awl_pw ?wtq (pv_pick_t rfl rfl tfA rfl) rfl rfl ?_)); case wtq => exact wtA))
  refine awl_hw wtA (st_call T0 (q1) rfl rfl rfl rfl (by first | exact callee_lit | exact callee_v | exact callee_fn | assumption) rcA raA rfl ?_)
  rintro _ rfl
  repeat (first | ((first | (show AWL _ _ _ (⟨_, .move _, _, _, _, _⟩ :: _) _ _ _; refine awl_pw ?wtq (pv_move rfl rfl) rfl rfl ?_) | (show AWL _ _ _ (⟨_, .pick _ _ _, _, _, _, _⟩ :: _) _ _ _; refine awl_pw ?wtq (pv_pick_t rfl rfl tfA rfl) rfl rfl ?_)); case wtq => exact wtA))
  refine awl_hw wtA (st_call T0 (q2) rfl rfl rfl rfl (by first | exact callee_lit | exact callee_v | exact callee_fn | assumption) rcA raA rfl ?_)
  rintro _ rfl
  repeat (first | ((first | (show AWL _ _ _ (⟨_, .move _, _, _, _, _⟩ :: _) _ _ _; refine awl_pw ?wtq (pv_move rfl rfl) rfl rfl ?_) | (show AWL _ _ _ (⟨_, .binOp .eql _ _ _ _, _, _, _, _⟩ :: _) _ _ _; refine awl_pw ?wtq (pv_eql rfl rfl rfl) rfl rfl ?_) | (show AWL _ _ _ (⟨_, .pick _ _ _, _, _, _, _⟩ :: _) _ _ _; refine awl_pw ?wtq (pv_pick_t rfl rfl tfA rfl) rfl rfl ?_)); case wtq => exact wtA))
  refine awl_hw wtA (st_call T0 (q3) rfl rfl rfl rfl (by first | exact callee_lit | exact callee_v | exact callee_fn | assumption) rcA raA rfl ?_)
  rintro _ rfl
  repeat (first | refine awp_ret ?_ | ((first | (show AWL _ _ _ (⟨_, .assign _, _, _, _, _⟩ :: _) _ _ _; refine awl_pw ?wtq (pv_assign rfl rfl) rfl rfl ?_) | (show AWL _ _ _ (⟨_, .pick _ _ _, _, _, _, _⟩ :: _) _ _ _; refine awl_pw ?wtq (pv_pick_t rfl rfl tfA rfl) rfl rfl ?_)); case wtq => exact wtA) | refine awl_nil ?_)
  exact body_p (.cons rfl .nil) rfl
end Go.Proofs.Ytlpknbneilgjkaa.C
end
