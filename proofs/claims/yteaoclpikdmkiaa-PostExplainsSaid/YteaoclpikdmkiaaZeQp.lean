/- Can and Leave of the reference: walks. -/
import Derived.Test.YteaoclpikdmkiaaZeGQb
import Derived.Test.YteaoclpikdmkiaaZeQp0
import Derived.Test.YteaoclpikdmkiaaZeOk
import Derived.Test.YteaoclpikdmkiaaZeOv
import Derived.Test.YteaoclpikdmkiaaBit
import Derived.Test.YteaoclpikdmkiaaTlw
import Derived.Test.YteaoclpikdmkiaaTy
import Derived.Test.YteaoclpikdmkiaaTz
import Derived.Test.YteaoclpikdmkiaaTv
namespace Go.Proofs.Yteaoclpikdmkiaa
open Go Go.RowKit Go.Tl
set_option linter.unusedVariables false
set_option linter.unusedSimpArgs false
set_option maxRecDepth 100000
set_option maxHeartbeats 4000000
theorem canI_iff {p : PostD} (hv : VPost p) {l : List SaleD} {out : List Int} {sk : Nat → Bool} (h : ∀ j, j < l.length → (sk j = true ↔ (j : Int) ∈ out)) : canI p l out = true ↔ ∃ t, truthB p t = true ∧ explG l sk (playT p t) = true := by
  constructor
  · intro hc
    obtain ⟨x, hx, he⟩ := List.any_eq_true.1 hc
    obtain ⟨h1, h2⟩ := leaves_sound hv hx
    exact ⟨x.2, h1, by rw [← h2, ← explG_eq h]; exact he⟩
  · rintro ⟨t, ht, he⟩
    obtain ⟨x, hx, e⟩ := leaves_complete hv ht
    exact List.any_eq_true.2 ⟨x, hx, by rw [explG_eq h, e]; exact he⟩
theorem canI_bits {p : PostD} (hv : VPost p) {l : List SaleD} {m : Nat} (hl : l.length ≤ 16) (hm : m < 2 ^ l.length) : canI p l (bitsL m 16) = true ↔ ∃ t, truthB p t = true ∧ explG l (fun i => m.testBit i) (playT p t) = true :=
  canI_iff hv fun j hj => by rw [← bits_in hm hl j]; exact inL_iff
theorem canI_zero {p : PostD} (hv : VPost p) {l : List SaleD} : canI p l [] = true ↔ ∃ t, truthB p t = true ∧ explG l (fun i => (0 : Nat).testBit i) (playT p t) = true :=
  canI_iff hv fun j hj => by simp
/-- a smallest list by bits is a smallest list -/
theorem minR_bits {p : PostD} {l : List SaleD} (hl : l.length ≤ 16) {s : List Int} (h1 : Ext l.length s 0) (h2 : canI p l s = true) (h : ∀ m, m < 2 ^ l.length → canI p l (bitsL m 16) = true → ¬ lessL (bitsL m 16) s) : MinR p l s :=
  ⟨h1, h2, fun e he hE => by
    have hm := mask_lt (ext_iff.1 he).1 e.length (Nat.le_refl _)
    have := h _ hm (by rw [bits_mask he hl]; exact hE)
    rwa [bits_mask he hl] at this⟩
theorem full_bits {n : Nat} (hn : n ≤ 16) : bitsL (2 ^ n - 1) 16 = natsI (List.range n) := by
  have hp : 1 ≤ 2 ^ n := Nat.one_le_two_pow
  refine asc_eq (bits_asc _ _) (ext_iff.1 (range_ext n)).2 fun x => ?_
  rw [bits_mem]
  constructor
  · rintro ⟨i, rfl, h1, h2⟩
    rw [Nat.testBit_two_pow_sub_one] at h2
    exact List.mem_map.2 ⟨i, List.mem_range.2 (of_decide_eq_true h2), rfl⟩
  · intro hx
    obtain ⟨i, hi, rfl⟩ := List.mem_map.1 hx
    have := List.mem_range.1 hi
    exact ⟨i, rfl, by omega, by rw [Nat.testBit_two_pow_sub_one]; exact decide_eq_true this⟩
attribute [local irreducible] AWP AWL AOp PV LV AWT AWE
section
variable {g3 n : Nat} {cp c : Bool} {p : PostD} {l : List SaleD} {m : Nat}
theorem qp_4 (hv : VPost p) (hn : n ≤ 1000000000) (hl : l.length ≤ 60) (hm : m < 100000) {ops : Array Oper} (h : regF Try.f41 4 = some ops) :
    AWP Try.prog Try.f41.ntmps none (.region 4 ops true) (cutQ (fun s h => s = [(21, boolA (explG l (fun i => m.testBit i) (playT p (nthL p n p.ords.length)))), (1, .t (salesT c l)), (2, intA m), (3, .v (ptrV g3)), (7, intA n)] ∧ h = [.cl g3 24 [.t (ordsT cp p.ords)]]))
      [(1, .t (salesT c l)), (2, intA m), (3, .v (ptrV g3)), (7, intA n)] [.cl g3 24 [.t (ordsT cp p.ords)]] := by
  cases h
  have ht := nth_truth hv (n := (n : Int)) (by omega)
  have hpl := play_len hv ht
  refine awp_tree T0 [(0, 1), (1, 1), (2, 0), (5, 0), (6, 0), (3, 2), (4, 3), (7, 3)] (.op 0 1 (.op 1 1 (.op 2 0 (.op 5 0 (.op 6 0 (.op 3 2 (.op 4 3 (.op 7 3 .stop)))))))) [.cl g3 _ _] rfl (by kernel_rfl) (by solve | repeat' constructor) ?_
  refine awt_lo rfl (wt_none rfl) (lv_cla T0 rfl rfl rfl (by solve | repeat' constructor) rfl) rfl rfl rfl ?_
  refine awt_lo rfl (wt_none rfl) (lv_cla T0 rfl rfl rfl (by solve | repeat' constructor) rfl) rfl rfl rfl ?_
  refine awt_po rfl (wt_none rfl) (pv_move rfl rfl) rfl rfl ?_
  refine awt_po rfl (wt_none rfl) (pv_move rfl rfl) rfl rfl ?_
  refine awt_po rfl (wt_none rfl) (pv_move rfl rfl) rfl rfl ?_
  refine awt_h (hm := []) rfl (wt_none rfl) (by solve | repeat' constructor) rfl (st_call T0 (nth_p cp p hv n (by omega)) rfl rfl rfl rfl (by first | exact callee_lit | exact callee_v | exact callee_fn | assumption) (by solve | repeat' constructor) (by first | rfl | assumption) rfl ?_)
  rintro _ rfl
  refine awt_s (md := fun _ => True) rfl (wt_none rfl) (st_call T0 (refplay_p cp true p (nthL p n p.ords.length) hv ht) rfl rfl rfl rfl (by first | exact callee_lit | exact callee_v | exact callee_fn | assumption) (by solve | repeat' constructor) (by first | rfl | assumption) rfl ?_)
  rintro _ rfl
  refine awe_s (md := fun _ => True) rfl (wt_none rfl) (st_call T0 (refexpl_p true c (playT p (nthL p n p.ords.length)) l m (by omega) hl hm) rfl rfl rfl rfl (by first | exact callee_lit | exact callee_v | exact callee_fn | assumption) (by solve | repeat' constructor) (by first | rfl | assumption) rfl ?_)
  rintro _ rfl
  refine awe_end ?_
  exact cut_n ⟨rfl, rfl⟩ (by first | ((repeat' (first | exact True.intro | refine ⟨rfl, ?_⟩)); all_goals fail) | fail) (by solve | repeat' constructor)
end
theorem refcan_p (cp c : Bool) (p : PostD) (hv : VPost p) (l : List SaleD) (m : Nat) {r : Bool} (hl : l.length ≤ 60) (hm : m < 100000) (hr : r = true ↔ ∃ t, truthB p t = true ∧ explG l (fun i => m.testBit i) (playT p t) = true) : PCall Try.prog 41 [postA cp p, .t (salesT c l), intA m] (fun x => x = boolA r) := by
  refine acall_of_awp T0 Try.func41 rfl rfl rfl ?_
  have hmb := manyN_bd hv (Nat.le_refl p.ords.length)
  obtain ⟨M, hM⟩ : ∃ q : Nat, (q : Int) = manyN p p.ords.length := ⟨(manyN p p.ords.length).toNat, by omega⟩
  have hmany := many_p cp p hv
  rw [← hM] at hmany
  repeat (first | refine awp_seq ?_ | refine awp_region_lit rfl ?_)
  refine awl_hw (by first | exact wt_none rfl | exact wt_some' rfl rfl rfl rfl (by first | rfl | assumption | exact dT (by omega) | exact dF (by omega))) (st_box rfl rfl (by first | rfl | assumption) (by first | assumption | (simp only [cellsA]; rfl)) rfl rfl ?_)
  intro g3
  repeat (first | refine awp_seq ?_ | refine awp_block ?_ | refine awp_region_lit rfl ?_ | ((first | (show AWL _ _ _ (⟨_, .assign _, _, _, _, _⟩ :: _) _ _ _; refine awl_pw ?wtq (pv_assign rfl rfl) rfl rfl ?_)); case wtq => first | exact wt_none rfl | exact wt_some' rfl rfl rfl rfl (by first | rfl | assumption | exact dT (by omega) | exact dF (by omega))) | refine awl_nil ?_)
  refine awp_loop (fun q s h => ∃ (n : Nat), n ≤ M ∧ q = M - n ∧ (∀ j, j < n → explG l (fun i => m.testBit i) (playT p (nthL p j p.ords.length)) = false) ∧ s = [(1, .t (salesT c l)), (2, intA m), (3, .v (ptrV g3)), (7, intA n)] ∧ h = [.cl g3 24 [.t (ordsT cp p.ords)]]) ?_ ⟨0, Nat.zero_le _, rfl, (fun j hj => absurd hj (Nat.not_lt_zero _)), rfl, rfl⟩ (by first | ((repeat' (first | exact True.intro | refine ⟨rfl, ?_⟩)); all_goals fail) | fail) (by solve | repeat' constructor)
  rintro q s h ⟨n, hn, rfl, hno, rfl, rfl⟩
  by_cases hlt : n < M
  case neg =>
    have er : r = false := by
      cases r
      · rfl
      · obtain ⟨t, ht, he⟩ := hr.1 rfl
        obtain ⟨j, hj, e⟩ := nth_all hv ht
        have := hno j (by omega)
        rw [e, he] at this
        cases this
    subst er
    repeat (first | refine awp_seq ?_ | refine awp_region_lit rfl ?_ | ((first | (show AWL _ _ _ (⟨_, .move _, _, _, _, _⟩ :: _) _ _ _; refine awl_pw ?wtq (pv_move rfl rfl) rfl rfl ?_) | (show AWL _ _ _ (⟨_, .load _ _, _, _, _, _⟩ :: _) _ _ _; refine awl_lw ?wtq (lv_cla T0 rfl rfl rfl (by solve | repeat' constructor) rfl) rfl rfl rfl ?_)); case wtq => first | exact wt_none rfl | exact wt_some' rfl rfl rfl rfl (by first | rfl | assumption | exact dT (by omega) | exact dF (by omega))))
    refine awl_hw (by first | exact wt_none rfl | exact wt_some' rfl rfl rfl rfl (by first | rfl | assumption | exact dT (by omega) | exact dF (by omega))) (st_call T0 (hmany) rfl rfl rfl rfl (by first | exact callee_lit | exact callee_v | exact callee_fn | assumption) (by solve | repeat' constructor) (by first | rfl | assumption) rfl ?_)
    rintro _ rfl
    repeat (first | refine awp_seq ?_ | refine awp_region_lit rfl ?_ | refine awp_exit ?_ | refine awp_ret ?_ | refine then_n ?_ | refine awp_cond_f rfl (by first | rfl | assumption | exact dF (by omega)) ?_ | ((first | (show AWL _ _ _ (⟨_, .assign _, _, _, _, _⟩ :: _) _ _ _; refine awl_pw ?wtq (pv_assign rfl rfl) rfl rfl ?_) | (show AWL _ _ _ (⟨_, .binOp .lss _ _ _ _, _, _, _, _⟩ :: _) _ _ _; refine awl_pw ?wtq (pv_lss rfl rfl rfl) rfl rfl ?_)); case wtq => first | exact wt_none rfl | exact wt_some' rfl rfl rfl rfl (by first | rfl | assumption | exact dT (by omega) | exact dF (by omega))) | refine awl_nil ?_)
    exact body_p (.cons rfl .nil) rfl
  cases e : explG l (fun i => m.testBit i) (playT p (nthL p n p.ords.length))
  · have hreg := qp_4 (g3 := g3) (n := n) (cp := cp) (c := c) (p := p) (l := l) (m := m) hv (by omega) hl hm (h := rfl)
    rw [e] at hreg
    repeat (first | refine awp_seq ?_ | refine awp_region_lit rfl ?_ | ((first | (show AWL _ _ _ (⟨_, .move _, _, _, _, _⟩ :: _) _ _ _; refine awl_pw ?wtq (pv_move rfl rfl) rfl rfl ?_) | (show AWL _ _ _ (⟨_, .load _ _, _, _, _, _⟩ :: _) _ _ _; refine awl_lw ?wtq (lv_cla T0 rfl rfl rfl (by solve | repeat' constructor) rfl) rfl rfl rfl ?_)); case wtq => first | exact wt_none rfl | exact wt_some' rfl rfl rfl rfl (by first | rfl | assumption | exact dT (by omega) | exact dF (by omega))))
    refine awl_hw (by first | exact wt_none rfl | exact wt_some' rfl rfl rfl rfl (by first | rfl | assumption | exact dT (by omega) | exact dF (by omega))) (st_call T0 (hmany) rfl rfl rfl rfl (by first | exact callee_lit | exact callee_v | exact callee_fn | assumption) (by solve | repeat' constructor) (by first | rfl | assumption) rfl ?_)
    rintro _ rfl
    repeat (first | refine awp_seq ?_ | refine awp_block ?_ | refine awp_skip ?_ | refine then_n ?_ | refine awp_cond_t rfl (by first | rfl | assumption | exact dT (by omega)) ?_ | ((first | (show AWL _ _ _ (⟨_, .binOp .lss _ _ _ _, _, _, _, _⟩ :: _) _ _ _; refine awl_pw ?wtq (pv_lss rfl rfl rfl) rfl rfl ?_)); case wtq => first | exact wt_none rfl | exact wt_some' rfl rfl rfl rfl (by first | rfl | assumption | exact dT (by omega) | exact dF (by omega))) | refine awl_nil ?_)
    refine awp_cut _ (awp_weak (by first | ((repeat' (first | exact True.intro | refine ⟨rfl, ?_⟩)); all_goals fail) | fail) (by solve | repeat' constructor) hreg) ?_
    rintro s h ⟨rfl, rfl⟩
    repeat (first | refine awp_region_lit rfl ?_ | refine awp_skip ?_ | refine awp_cond_f rfl (by first | rfl | assumption | exact dF (by omega)) ?_ | ((first | (show AWL _ _ _ (⟨_, .move _, _, _, _, _⟩ :: _) _ _ _; refine awl_pw ?wtq (pv_move rfl rfl) rfl rfl ?_) | (show AWL _ _ _ (⟨_, .assign _, _, _, _, _⟩ :: _) _ _ _; refine awl_pw ?wtq (pv_assign rfl rfl) rfl rfl ?_) | (show AWL _ _ _ (⟨_, .binOp .add _ _ _ _, _, _, _, _⟩ :: _) _ _ _; refine awl_pw ?wtq (pv_add rfl rfl rfl (by first | assumption | exact wr64 (by omega))) rfl rfl ?_)); case wtq => first | exact wt_none rfl | exact wt_some' rfl rfl rfl rfl (by first | rfl | assumption | exact dT (by omega) | exact dF (by omega))) | refine awl_nil ?_)
    refine rnd_n _ _ _ ?_ ⟨n + 1, hlt, rfl, fun j hj => ?_, rfl, rfl⟩ (by first | ((repeat' (first | exact True.intro | refine ⟨rfl, ?_⟩)); all_goals fail) | fail) (by solve | repeat' constructor)
    · omega
    · by_cases c : j = n
      · subst c; exact e
      · exact hno j (by omega)
  · have hreg := qp_4 (g3 := g3) (n := n) (cp := cp) (c := c) (p := p) (l := l) (m := m) hv (by omega) hl hm (h := rfl)
    rw [e] at hreg
    have er : r = true := hr.2 ⟨_, nth_truth hv (n := (n : Int)) (by omega), e⟩
    subst er
    repeat (first | refine awp_seq ?_ | refine awp_region_lit rfl ?_ | ((first | (show AWL _ _ _ (⟨_, .move _, _, _, _, _⟩ :: _) _ _ _; refine awl_pw ?wtq (pv_move rfl rfl) rfl rfl ?_) | (show AWL _ _ _ (⟨_, .load _ _, _, _, _, _⟩ :: _) _ _ _; refine awl_lw ?wtq (lv_cla T0 rfl rfl rfl (by solve | repeat' constructor) rfl) rfl rfl rfl ?_)); case wtq => first | exact wt_none rfl | exact wt_some' rfl rfl rfl rfl (by first | rfl | assumption | exact dT (by omega) | exact dF (by omega))))
    refine awl_hw (by first | exact wt_none rfl | exact wt_some' rfl rfl rfl rfl (by first | rfl | assumption | exact dT (by omega) | exact dF (by omega))) (st_call T0 (hmany) rfl rfl rfl rfl (by first | exact callee_lit | exact callee_v | exact callee_fn | assumption) (by solve | repeat' constructor) (by first | rfl | assumption) rfl ?_)
    rintro _ rfl
    repeat (first | refine awp_seq ?_ | refine awp_block ?_ | refine awp_skip ?_ | refine then_n ?_ | refine awp_cond_t rfl (by first | rfl | assumption | exact dT (by omega)) ?_ | ((first | (show AWL _ _ _ (⟨_, .binOp .lss _ _ _ _, _, _, _, _⟩ :: _) _ _ _; refine awl_pw ?wtq (pv_lss rfl rfl rfl) rfl rfl ?_)); case wtq => first | exact wt_none rfl | exact wt_some' rfl rfl rfl rfl (by first | rfl | assumption | exact dT (by omega) | exact dF (by omega))) | refine awl_nil ?_)
    refine awp_cut _ (awp_weak (by first | ((repeat' (first | exact True.intro | refine ⟨rfl, ?_⟩)); all_goals fail) | fail) (by solve | repeat' constructor) hreg) ?_
    rintro s h ⟨rfl, rfl⟩
    repeat (first | refine awp_seq ?_ | refine awp_region_lit rfl ?_ | refine awp_ret ?_ | refine then_r ?_ | refine blk_r ?_ | refine rnd_r ?_ | refine awp_cond_t rfl (by first | rfl | assumption | exact dT (by omega)) ?_ | ((first | (show AWL _ _ _ (⟨_, .assign _, _, _, _, _⟩ :: _) _ _ _; refine awl_pw ?wtq (pv_assign rfl rfl) rfl rfl ?_)); case wtq => first | exact wt_none rfl | exact wt_some' rfl rfl rfl rfl (by first | rfl | assumption | exact dT (by omega) | exact dF (by omega))) | refine awl_nil ?_)
    exact body_p (.cons rfl .nil) rfl
theorem refleave_p (cp c : Bool) (p : PostD) (hv : VPost p) (l : List SaleD) {Y : List Int} (hl : l.length ≤ 9) (hY : MinR p l Y) : PCall Try.prog 40 [postA cp p, .t (salesT c l)] (fun r => r = .t (intsT true Y)) := by
  have hsh : IntKind.i64.wrap (1 * 2 ^ (min (l.length : Int).toNat 64)) = ((2 ^ l.length : Nat) : Int) := shl_one rfl (by omega)
  have hpu : 2 ^ l.length ≤ 2 ^ 9 := Nat.pow_le_pow_right (by omega) (by omega)
  have hp1 : 1 ≤ 2 ^ l.length := Nat.one_le_two_pow
  have hmin : ∀ s, Ext l.length s 0 → canI p l s = true → (∀ m, m < 2 ^ l.length → canI p l (bitsL m 16) = true → ¬ lessL (bitsL m 16) s) → s = Y := fun s h1 h2 h => minR_unique (minR_bits (by omega) h1 h2 h) hY
  have hext : ∀ m, m < 2 ^ l.length → Ext l.length (bitsL m 16) 0 := fun m hm => bits_ext hm (by omega)
  have hcan : ∀ m : Nat, m < 2 ^ l.length → PCall Try.prog 41 [postA cp p, .t (salesT c l), intA m] (fun x => x = boolA (canI p l (bitsL m 16))) := fun m hm => refcan_p cp c p hv l m (by omega) (by omega) (canI_bits hv (by omega) hm)
  have hbl : ∀ m k, (bitsL m k).length ≤ k := bits_len
  have hfe := hext (2 ^ l.length - 1) (by omega)
  have hfn : canI p l (bitsL (2 ^ l.length - 1) 16) = true := by rw [full_bits (by omega)]; exact canI_full hv l
  have hfl := hbl (2 ^ l.length - 1) 16
  have hfc : ((2 ^ l.length : Nat) : Int) - 1 = ((2 ^ l.length - 1 : Nat) : Int) := by omega
  refine acall_of_awp T0 Try.func40 rfl rfl rfl ?_
  generalize 2 ^ l.length = P at *
  have hbits := bits_p (P - 1) (by omega)
  generalize bitsL (P - 1) 16 = full at *
  rw [← hfc] at hbits
  repeat (first | refine awp_seq ?_ | refine awp_region_lit rfl ?_)
  refine awl_hw (by first | exact wt_none rfl | exact wt_some' rfl rfl rfl rfl (by first | rfl | assumption | exact dT (by omega) | exact dF (by omega))) (st_box rfl rfl (by first | rfl | assumption) (by first | assumption | (simp only [cellsA]; rfl)) rfl rfl ?_)
  intro g2
  repeat (first | refine awp_seq ?_ | refine awp_region_lit rfl ?_ | ((first | (show AWL _ _ _ (⟨_, .move _, _, _, _, _⟩ :: _) _ _ _; refine awl_pw ?wtq (pv_move rfl rfl) rfl rfl ?_) | (show AWL _ _ _ (⟨_, .assign _, _, _, _, _⟩ :: _) _ _ _; refine awl_pw ?wtq (pv_assign rfl rfl) rfl rfl ?_) | (show AWL _ _ _ (⟨_, .call ⟨.builtin .len, _, _⟩, _, _, _, _⟩ :: _) _ _ _; refine awl_pw ?wtq (pv_len_t T0 rfl rfl rfl) rfl rfl ?_)); case wtq => first | exact wt_none rfl | exact wt_some' rfl rfl rfl rfl (by first | rfl | assumption | exact dT (by omega) | exact dF (by omega))) | refine awl_nil ?_)
  refine awl_pw (wt_none rfl) (pv_convert rfl rfl Try.underlying3 Try.underlying93 (wu64 (by omega))) rfl rfl ?_
  refine awl_pw (wt_none rfl) (pv_shl rfl rfl rfl (by omega) hsh) rfl rfl ?_
  repeat (first | ((first | (show AWL _ _ _ (⟨_, .binOp .sub _ _ _ _, _, _, _, _⟩ :: _) _ _ _; refine awl_pw ?wtq (pv_sub rfl rfl rfl (by first | assumption | exact wr64 (by omega))) rfl rfl ?_)); case wtq => first | exact wt_none rfl | exact wt_some' rfl rfl rfl rfl (by first | rfl | assumption | exact dT (by omega) | exact dF (by omega))))
  refine awl_hw (by first | exact wt_none rfl | exact wt_some' rfl rfl rfl rfl (by first | rfl | assumption | exact dT (by omega) | exact dF (by omega))) (st_call T0 (hbits) rfl rfl rfl rfl (by first | exact callee_lit | exact callee_v | exact callee_fn | assumption) (by solve | repeat' constructor) (by first | rfl | assumption) rfl ?_)
  rintro _ rfl
  repeat (first | refine awp_seq ?_ | refine awp_block ?_ | refine awp_region_lit rfl ?_ | ((first | (show AWL _ _ _ (⟨_, .assign _, _, _, _, _⟩ :: _) _ _ _; refine awl_pw ?wtq (pv_assign rfl rfl) rfl rfl ?_)); case wtq => first | exact wt_none rfl | exact wt_some' rfl rfl rfl rfl (by first | rfl | assumption | exact dT (by omega) | exact dF (by omega))) | refine awl_nil ?_)
  refine awp_loop (fun q s h => ∃ (m : Nat) (best : List Int), m ≤ P ∧ q = P - m ∧ best.length ≤ 16 ∧ Ext l.length best 0 ∧ canI p l best = true ∧ (∀ m', m' < m → canI p l (bitsL m' 16) = true → ¬ lessL (bitsL m' 16) best) ∧ s = [(1, .t (salesT c l)), (2, .v (ptrV g2)), (5, .t (intsT true best)), (6, intA m)] ∧ h = [.cl g2 24 [.t (ordsT cp p.ords)]]) ?_ ⟨0, full, Nat.zero_le _, rfl, hfl, hfe, hfn, (fun j hj => absurd hj (Nat.not_lt_zero _)), rfl, rfl⟩ (by first | ((repeat' (first | exact True.intro | refine ⟨rfl, ?_⟩)); all_goals fail) | fail) (by solve | repeat' constructor)
  rintro q s h ⟨m, best, hmP, rfl, hb16, hbe, hbn, hall, rfl, rfl⟩
  repeat (first | refine awp_seq ?_ | refine awp_region_lit rfl ?_ | ((first | (show AWL _ _ _ (⟨_, .move _, _, _, _, _⟩ :: _) _ _ _; refine awl_pw ?wtq (pv_move rfl rfl) rfl rfl ?_) | (show AWL _ _ _ (⟨_, .call ⟨.builtin .len, _, _⟩, _, _, _, _⟩ :: _) _ _ _; refine awl_pw ?wtq (pv_len_t T0 rfl rfl rfl) rfl rfl ?_)); case wtq => first | exact wt_none rfl | exact wt_some' rfl rfl rfl rfl (by first | rfl | assumption | exact dT (by omega) | exact dF (by omega))))
  refine awl_pw (wt_none rfl) (pv_convert rfl rfl Try.underlying3 Try.underlying93 (wu64 (by omega))) rfl rfl ?_
  refine awl_pw (wt_none rfl) (pv_shl rfl rfl rfl (by omega) hsh) rfl rfl ?_
  by_cases hlt : m < P
  case neg =>
    have eY := hmin best hbe hbn fun m' hm' => hall m' (by omega)
    subst eY
    repeat (first | refine awp_seq ?_ | refine awp_region_lit rfl ?_ | refine awp_exit ?_ | refine awp_ret ?_ | refine then_n ?_ | refine awp_cond_f rfl (by first | rfl | assumption | exact dF (by omega)) ?_ | ((first | (show AWL _ _ _ (⟨_, .move _, _, _, _, _⟩ :: _) _ _ _; refine awl_pw ?wtq (pv_move rfl rfl) rfl rfl ?_) | (show AWL _ _ _ (⟨_, .assign _, _, _, _, _⟩ :: _) _ _ _; refine awl_pw ?wtq (pv_assign rfl rfl) rfl rfl ?_) | (show AWL _ _ _ (⟨_, .binOp .lss _ _ _ _, _, _, _, _⟩ :: _) _ _ _; refine awl_pw ?wtq (pv_lss rfl rfl rfl) rfl rfl ?_)); case wtq => first | exact wt_none rfl | exact wt_some' rfl rfl rfl rfl (by first | rfl | assumption | exact dT (by omega) | exact dF (by omega))) | refine awl_nil ?_)
    exact body_p (.cons rfl .nil) rfl
  repeat (first | refine awp_seq ?_ | refine awp_block ?_ | refine awp_region_lit rfl ?_ | refine awp_skip ?_ | refine then_n ?_ | refine awp_cond_t rfl (by first | rfl | assumption | exact dT (by omega)) ?_ | ((first | (show AWL _ _ _ (⟨_, .move _, _, _, _, _⟩ :: _) _ _ _; refine awl_pw ?wtq (pv_move rfl rfl) rfl rfl ?_) | (show AWL _ _ _ (⟨_, .binOp .lss _ _ _ _, _, _, _, _⟩ :: _) _ _ _; refine awl_pw ?wtq (pv_lss rfl rfl rfl) rfl rfl ?_)); case wtq => first | exact wt_none rfl | exact wt_some' rfl rfl rfl rfl (by first | rfl | assumption | exact dT (by omega) | exact dF (by omega))) | refine awl_nil ?_)
  refine awl_hw (by first | exact wt_none rfl | exact wt_some' rfl rfl rfl rfl (by first | rfl | assumption | exact dT (by omega) | exact dF (by omega))) (st_call T0 (bits_p m (by omega)) rfl rfl rfl rfl (by first | exact callee_lit | exact callee_v | exact callee_fn | assumption) (by solve | repeat' constructor) (by first | rfl | assumption) rfl ?_)
  rintro _ rfl
  repeat (first | refine awp_seq ?_ | refine awp_region_lit rfl ?_ | ((first | (show AWL _ _ _ (⟨_, .move _, _, _, _, _⟩ :: _) _ _ _; refine awl_pw ?wtq (pv_move rfl rfl) rfl rfl ?_) | (show AWL _ _ _ (⟨_, .assign _, _, _, _, _⟩ :: _) _ _ _; refine awl_pw ?wtq (pv_assign rfl rfl) rfl rfl ?_)); case wtq => first | exact wt_none rfl | exact wt_some' rfl rfl rfl rfl (by first | rfl | assumption | exact dT (by omega) | exact dF (by omega))) | refine awl_nil ?_)
  have hml := hbl m 16
  have hme := hext m hlt
  have hmn := hcan m hlt
  have hall' : ∀ best', (∀ m', m' < m → canI p l (bitsL m' 16) = true → ¬ lessL (bitsL m' 16) best') → (canI p l (bitsL m 16) = true → ¬ lessL (bitsL m 16) best') → ∀ m', m' < m + 1 → canI p l (bitsL m' 16) = true → ¬ lessL (bitsL m' 16) best' := fun best' h1 h2 m' hm' => by
    by_cases c : m' = m
    · subst c; exact h2
    · exact h1 m' (by omega)
  generalize hB : bitsL m 16 = B at *
  obtain ⟨r, hr⟩ : ∃ r : Bool, r = true ↔ lessL B best := bool_of _
  refine awl_hw (by first | exact wt_none rfl | exact wt_some' rfl rfl rfl rfl (by first | rfl | assumption | exact dT (by omega) | exact dF (by omega))) (st_call T0 (less_q (by omega) (by omega) hr) rfl rfl rfl rfl (by first | exact callee_lit | exact callee_v | exact callee_fn | assumption) (by solve | repeat' constructor) (by first | rfl | assumption) rfl ?_)
  rintro _ rfl
  cases r
  · repeat (first | refine awp_region_lit rfl ?_ | refine awp_skip ?_ | refine then_n ?_ | refine awp_cond_f rfl (by first | rfl | assumption | exact dF (by omega)) ?_ | ((first | (show AWL _ _ _ (⟨_, .move _, _, _, _, _⟩ :: _) _ _ _; refine awl_pw ?wtq (pv_move rfl rfl) rfl rfl ?_) | (show AWL _ _ _ (⟨_, .assign _, _, _, _, _⟩ :: _) _ _ _; refine awl_pw ?wtq (pv_assign rfl rfl) rfl rfl ?_) | (show AWL _ _ _ (⟨_, .load _ _, _, _, _, _⟩ :: _) _ _ _; refine awl_lw ?wtq (lv_cla T0 rfl rfl rfl (by solve | repeat' constructor) rfl) rfl rfl rfl ?_) | (show AWL _ _ _ (⟨_, .binOp .add _ _ _ _, _, _, _, _⟩ :: _) _ _ _; refine awl_pw ?wtq (pv_add rfl rfl rfl (by first | assumption | exact wr64 (by omega))) rfl rfl ?_) | (show AWL _ _ _ (⟨_, .pick _ _ _, _, _, _, _⟩ :: _) _ _ _; refine awl_pw ?wtq (pv_pick_f rfl rfl (by first | rfl | assumption | exact dT (by omega) | exact dF (by omega)) rfl) rfl rfl ?_)); case wtq => first | exact wt_none rfl | exact wt_some' rfl rfl rfl rfl (by first | rfl | assumption | exact dT (by omega) | exact dF (by omega))) | refine awl_sk (wf_some rfl rfl rfl rfl (by first | rfl | assumption | exact dT (by omega) | exact dF (by omega))) rfl rfl ?_ | refine awl_nil ?_)
    refine rnd_n _ _ _ ?_ ⟨m + 1, best, hlt, rfl, hb16, hbe, hbn, hall' best hall fun _ h => ?_, rfl, rfl⟩ (by first | ((repeat' (first | exact True.intro | refine ⟨rfl, ?_⟩)); all_goals fail) | fail) (by solve | repeat' constructor)
    · omega
    · have := hr.2 h; cases this
  · cases he : canI p l B
    · rw [he] at hmn
      repeat (first | ((first | (show AWL _ _ _ (⟨_, .move _, _, _, _, _⟩ :: _) _ _ _; refine awl_pw ?wtq (pv_move rfl rfl) rfl rfl ?_) | (show AWL _ _ _ (⟨_, .load _ _, _, _, _, _⟩ :: _) _ _ _; refine awl_lw ?wtq (lv_cla T0 rfl rfl rfl (by solve | repeat' constructor) rfl) rfl rfl rfl ?_)); case wtq => first | exact wt_none rfl | exact wt_some' rfl rfl rfl rfl (by first | rfl | assumption | exact dT (by omega) | exact dF (by omega))))
      refine awl_hw (by first | exact wt_none rfl | exact wt_some' rfl rfl rfl rfl (by first | rfl | assumption | exact dT (by omega) | exact dF (by omega))) (st_call T0 (hmn) rfl rfl rfl rfl (by first | exact callee_lit | exact callee_v | exact callee_fn | assumption) (by solve | repeat' constructor) (by first | rfl | assumption) rfl ?_)
      rintro _ rfl
      repeat (first | refine awp_region_lit rfl ?_ | refine awp_skip ?_ | refine then_n ?_ | refine awp_cond_f rfl (by first | rfl | assumption | exact dF (by omega)) ?_ | ((first | (show AWL _ _ _ (⟨_, .move _, _, _, _, _⟩ :: _) _ _ _; refine awl_pw ?wtq (pv_move rfl rfl) rfl rfl ?_) | (show AWL _ _ _ (⟨_, .assign _, _, _, _, _⟩ :: _) _ _ _; refine awl_pw ?wtq (pv_assign rfl rfl) rfl rfl ?_) | (show AWL _ _ _ (⟨_, .binOp .add _ _ _ _, _, _, _, _⟩ :: _) _ _ _; refine awl_pw ?wtq (pv_add rfl rfl rfl (by first | assumption | exact wr64 (by omega))) rfl rfl ?_) | (show AWL _ _ _ (⟨_, .pick _ _ _, _, _, _, _⟩ :: _) _ _ _; refine awl_pw ?wtq (pv_pick_t rfl rfl (by first | rfl | assumption | exact dT (by omega) | exact dF (by omega)) rfl) rfl rfl ?_)); case wtq => first | exact wt_none rfl | exact wt_some' rfl rfl rfl rfl (by first | rfl | assumption | exact dT (by omega) | exact dF (by omega))) | refine awl_nil ?_)
      refine rnd_n _ _ _ ?_ ⟨m + 1, best, hlt, rfl, hb16, hbe, hbn, hall' best hall fun h2 h => ?_, rfl, rfl⟩ (by first | ((repeat' (first | exact True.intro | refine ⟨rfl, ?_⟩)); all_goals fail) | fail) (by solve | repeat' constructor)
      · omega
      · rw [he] at h2; cases h2
    · rw [he] at hmn
      have hls := hr.1 rfl
      repeat (first | ((first | (show AWL _ _ _ (⟨_, .move _, _, _, _, _⟩ :: _) _ _ _; refine awl_pw ?wtq (pv_move rfl rfl) rfl rfl ?_) | (show AWL _ _ _ (⟨_, .load _ _, _, _, _, _⟩ :: _) _ _ _; refine awl_lw ?wtq (lv_cla T0 rfl rfl rfl (by solve | repeat' constructor) rfl) rfl rfl rfl ?_)); case wtq => first | exact wt_none rfl | exact wt_some' rfl rfl rfl rfl (by first | rfl | assumption | exact dT (by omega) | exact dF (by omega))))
      refine awl_hw (by first | exact wt_none rfl | exact wt_some' rfl rfl rfl rfl (by first | rfl | assumption | exact dT (by omega) | exact dF (by omega))) (st_call T0 (hmn) rfl rfl rfl rfl (by first | exact callee_lit | exact callee_v | exact callee_fn | assumption) (by solve | repeat' constructor) (by first | rfl | assumption) rfl ?_)
      rintro _ rfl
      repeat (first | refine awp_region_lit rfl ?_ | refine then_n ?_ | refine awp_cond_t rfl (by first | rfl | assumption | exact dT (by omega)) ?_ | ((first | (show AWL _ _ _ (⟨_, .move _, _, _, _, _⟩ :: _) _ _ _; refine awl_pw ?wtq (pv_move rfl rfl) rfl rfl ?_) | (show AWL _ _ _ (⟨_, .assign _, _, _, _, _⟩ :: _) _ _ _; refine awl_pw ?wtq (pv_assign rfl rfl) rfl rfl ?_) | (show AWL _ _ _ (⟨_, .binOp .add _ _ _ _, _, _, _, _⟩ :: _) _ _ _; refine awl_pw ?wtq (pv_add rfl rfl rfl (by first | assumption | exact wr64 (by omega))) rfl rfl ?_) | (show AWL _ _ _ (⟨_, .pick _ _ _, _, _, _, _⟩ :: _) _ _ _; refine awl_pw ?wtq (pv_pick_t rfl rfl (by first | rfl | assumption | exact dT (by omega) | exact dF (by omega)) rfl) rfl rfl ?_)); case wtq => first | exact wt_none rfl | exact wt_some' rfl rfl rfl rfl (by first | rfl | assumption | exact dT (by omega) | exact dF (by omega))) | refine awl_nil ?_)
      refine rnd_n _ _ _ ?_ ⟨m + 1, B, hlt, rfl, hml, hme, he, hall' B (fun m' hm' h2 h => hall m' hm' h2 (less_trans h hls)) (fun _ => less_irr B), rfl, rfl⟩ (by first | ((repeat' (first | exact True.intro | refine ⟨rfl, ?_⟩)); all_goals fail) | fail) (by solve | repeat' constructor)
      omega
end Go.Proofs.Yteaoclpikdmkiaa
