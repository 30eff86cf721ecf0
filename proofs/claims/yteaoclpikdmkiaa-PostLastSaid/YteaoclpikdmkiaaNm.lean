/- What is filled: walks. -/
import Derived.Test.YteaoclpikdmkiaaNl
import Derived.Test.YteaoclpikdmkiaaNr
import Derived.Test.YteaoclpikdmkiaaTlw
import Derived.Test.YteaoclpikdmkiaaTz
import Derived.Test.YteaoclpikdmkiaaTv
namespace Go.Proofs.Yteaoclpikdmkiaa
open Go Go.RowKit Go.Tl
set_option linter.unusedVariables false
set_option linter.unusedSimpArgs false
set_option maxRecDepth 100000
set_option maxHeartbeats 4000000
def addS (b : Bool) (x : Int × Int) (s : SaleD) : Int × Int := if b = true then (x.1 + s.num, x.2 + s.num * s.price) else x
/-- what the first sales fill of an order, and its money -/
def filP (l : List SaleD) (i : Int) : Nat → Int × Int
  | 0 => (0, 0)
  | k + 1 => addS (decide ((l.getD k default).seller = i)) (addS (decide ((l.getD k default).buyer = i)) (filP l i k) (l.getD k default)) (l.getD k default)
structure NumOk (s : SaleD) : Prop where
  num : 0 ≤ s.num ∧ s.num ≤ 20
  mny : 0 ≤ s.num * s.price ∧ s.num * s.price ≤ 2000
theorem sok_num {p : PostD} (hv : VPost p) {s : SaleD} (h : SOk p s) : NumOk s := by
  have h1 := h.num
  have h2 := hv.lim s.buyer.toNat (by have := h.bl; omega)
  have h3 := hv.lim s.seller.toNat (by have := h.sl; omega)
  have h4 : 0 ≤ s.price ∧ s.price ≤ 100 := by have := h.hi; have := h.lo; exact ⟨by show (0 : Int) ≤ s.price; unfold oAt at *; omega, by unfold oAt at *; omega⟩
  refine ⟨by omega, Int.mul_nonneg (by omega) h4.1, ?_⟩
  have := Int.mul_le_mul h1.2 h4.2 h4.1 (by omega)
  omega
theorem addS_bd {b : Bool} {x : Int × Int} {s : SaleD} {n : Int} (hs : NumOk s) (hx : 0 ≤ x.1 ∧ x.1 ≤ n * 20 ∧ 0 ≤ x.2 ∧ x.2 ≤ n * 2000) : 0 ≤ (addS b x s).1 ∧ (addS b x s).1 ≤ (n + 1) * 20 ∧ 0 ≤ (addS b x s).2 ∧ (addS b x s).2 ≤ (n + 1) * 2000 := by
  have h1 := hs.num
  have h2 := hs.mny
  unfold addS
  split
  · show 0 ≤ x.1 + s.num ∧ x.1 + s.num ≤ _ ∧ 0 ≤ x.2 + s.num * s.price ∧ x.2 + s.num * s.price ≤ _
    omega
  · omega
theorem filP_bd {l : List SaleD} (hl : ∀ s ∈ l, NumOk s) (i : Int) : ∀ k, k ≤ l.length → 0 ≤ (filP l i k).1 ∧ (filP l i k).1 ≤ (2 * k : Nat) * 20 ∧ 0 ≤ (filP l i k).2 ∧ (filP l i k).2 ≤ (2 * k : Nat) * 2000
  | 0, _ => by simp [filP]
  | k + 1, hk => by
    have ih := filP_bd hl i k (by omega)
    have hs := hl _ (getD_mem (d := default) (show k < l.length by omega))
    have h1 := addS_bd (b := decide ((l.getD k default).buyer = i)) hs ih
    have h2 := addS_bd (b := decide ((l.getD k default).seller = i)) hs h1
    simp only [filP]
    have e : ((2 * (k + 1) : Nat) : Int) = ((2 * k : Nat) : Int) + 1 + 1 := by omega
    rw [e]
    exact h2
attribute [local irreducible] AWP AWL AOp PV LV AWT AWE
abbrev fnV (n : Nat) : AV := .v (.func (.func n) #[] #[])
theorem buyer_p (s : SaleD) : PCall Try.prog 96 [saleA s] (fun r => r = intA s.buyer) := by
  refine acall_of_awp T0 Try.func96 rfl rfl rfl ?_
  repeat (first | refine awp_seq ?_ | refine awp_region_lit rfl ?_)
  refine awl_hw (wt_none rfl) (st_box rfl rfl (by first | rfl | assumption) (by first | assumption | (simp only [cellsA]; rfl)) rfl rfl ?_)
  intro g1
  repeat (first | refine awp_seq ?_ | refine awp_region_lit rfl ?_ | refine awp_ret ?_ | (show AWL _ _ _ (⟨_, .assign _, _, _, _, _⟩ :: _) _ _ _; refine awl_pw (wt_none rfl) (pv_assign rfl rfl) rfl rfl ?_) | (show AWL _ _ _ (⟨_, .load _ _, _, _, _, _⟩ :: _) _ _ _; refine awl_lw (wt_none rfl) (lv_cl1 T0 rfl rfl rfl (by solve | repeat' constructor) (by first | rfl | assumption)) rfl rfl rfl ?_) | (show AWL _ _ _ (⟨_, .fieldAddr _ _ _, _, _, _, _⟩ :: _) _ _ _; refine awl_pw (wt_none rfl) (pv_fa T0 rfl rfl rfl (by simp; rfl)) rfl rfl ?_) | refine awl_nil ?_)
  exact body_p (.cons rfl .nil) rfl
theorem seller_p (s : SaleD) : PCall Try.prog 97 [saleA s] (fun r => r = intA s.seller) := by
  refine acall_of_awp T0 Try.func97 rfl rfl rfl ?_
  repeat (first | refine awp_seq ?_ | refine awp_region_lit rfl ?_)
  refine awl_hw (wt_none rfl) (st_box rfl rfl (by first | rfl | assumption) (by first | assumption | (simp only [cellsA]; rfl)) rfl rfl ?_)
  intro g1
  repeat (first | refine awp_seq ?_ | refine awp_region_lit rfl ?_ | refine awp_ret ?_ | (show AWL _ _ _ (⟨_, .assign _, _, _, _, _⟩ :: _) _ _ _; refine awl_pw (wt_none rfl) (pv_assign rfl rfl) rfl rfl ?_) | (show AWL _ _ _ (⟨_, .load _ _, _, _, _, _⟩ :: _) _ _ _; refine awl_lw (wt_none rfl) (lv_cl1 T0 rfl rfl rfl (by solve | repeat' constructor) (by first | rfl | assumption)) rfl rfl rfl ?_) | (show AWL _ _ _ (⟨_, .fieldAddr _ _ _, _, _, _, _⟩ :: _) _ _ _; refine awl_pw (wt_none rfl) (pv_fa T0 rfl rfl rfl (by simp; rfl)) rfl rfl ?_) | refine awl_nil ?_)
  exact body_p (.cons rfl .nil) rfl
theorem sides_p : PCall Try.prog 86 [] (fun r => r = .ag [fnV 96, fnV 97]) := by
  refine acall_of_awp T0 Try.func86 rfl rfl rfl ?_
  repeat (first | refine awp_seq ?_ | refine awp_region_lit rfl ?_)
  refine awl_hw (wt_none rfl) (st_alloc T0 rfl rfl rfl rfl (by simp only [Value.cells, List.toList_toArray, List.map_cons, List.map_nil]; rfl) ?_)
  intro g0
  repeat (first | refine awp_seq ?_ | refine awp_region_lit rfl ?_ | refine awp_ret ?_ | (show AWL _ _ _ (⟨_, .build _ _, _, _, _, _⟩ :: _) _ _ _; refine awl_pw (wt_none rfl) (pv_build T0 rfl rfl rfl (by simp only [Value.cells, List.toList_toArray, List.map_cons, List.map_nil]; rfl) (by first | ((repeat' (first | exact BParts.nil | apply BParts.cons | rfl)); all_goals fail) | fail) (by first | ((repeat' (first | exact FillA.nil | exact Sp.done | apply FillA.cons | apply Sp.put | apply Sp.skip | (simp only [cellsA]; rfl) | rfl)); all_goals fail) | fail)) rfl rfl ?_) | (show AWL _ _ _ (⟨_, .build _ _, _, _, _, _⟩ :: _) _ _ _; refine awl_pw (wt_none rfl) (pv_build_arr T0 rfl rfl rfl (by simp only [Value.cells, List.toList_toArray, List.map_cons, List.map_nil]; rfl) (by first | ((repeat' (first | exact BParts.nil | apply BParts.cons | rfl)); all_goals fail) | fail) (by first | ((repeat' (first | exact FillA.nil | exact Sp.done | apply FillA.cons | apply Sp.put | apply Sp.skip | (simp only [cellsA]; rfl) | rfl)); all_goals fail) | fail)) rfl rfl ?_) | (show AWL _ _ _ (⟨_, .store _ _ _, _, _, _, _⟩ :: _) _ _ _; refine awl_hw (wt_none rfl) (st_store T0 rfl rfl rfl rfl rfl (by first | assumption | (simp only [cellsA]; rfl)) rfl rfl rfl (by solve | repeat' constructor) (by solve | repeat' constructor) trivial ?_)) | refine awl_nil ?_)
  exact body_p (.cons ⟨g0, _, _, _, _, rfl, rfl, (by solve | repeat' constructor), by simp, .inl rfl, rfl⟩ .nil) rfl
theorem filled_p (c : Bool) (l : List SaleD) (i : Int) (hl : l.length ≤ 1000) (hs : ∀ s ∈ l, NumOk s) : PCall Try.prog 64 [.t (salesT c l), intA i] (fun r => r = .tup [intA (filP l i l.length).1, intA (filP l i l.length).2]) := by
  refine acall_of_awp T0 Try.func64 rfl rfl rfl ?_
  repeat (first | refine awp_seq ?_ | refine awp_block ?_ | refine awp_region_lit rfl ?_ | (show AWL _ _ _ (⟨_, .move _, _, _, _, _⟩ :: _) _ _ _; refine awl_pw (wt_none rfl) (pv_move rfl rfl) rfl rfl ?_) | (show AWL _ _ _ (⟨_, .assign _, _, _, _, _⟩ :: _) _ _ _; refine awl_pw (wt_none rfl) (pv_assign rfl rfl) rfl rfl ?_) | (show AWL _ _ _ (⟨_, .call ⟨.builtin .len, _, _⟩, _, _, _, _⟩ :: _) _ _ _; refine awl_pw (wt_none rfl) (pv_len_t T0 rfl rfl rfl) rfl rfl ?_) | refine awl_nil ?_)
  refine awp_loop (fun m s h => ∃ (k : Nat), k ≤ l.length ∧ m = l.length - k ∧ s = [(1, intA i), (4, intA (filP l i k).1), (5, intA (filP l i k).2), (10, .t (salesT c l)), (11, intA l.length), (12, intA k)] ∧ h = []) ?_ ⟨0, Nat.zero_le _, rfl, rfl, rfl⟩ (by first | ((repeat' (first | exact True.intro | refine ⟨rfl, ?_⟩)); all_goals fail) | fail) (by solve | repeat' constructor)
  rintro m s h ⟨k, hk, rfl, rfl, rfl⟩
  by_cases hkt : k < l.length
  case neg =>
    obtain rfl : k = l.length := by omega
    repeat (first | refine awp_seq ?_ | refine awp_region_lit rfl ?_ | refine awp_exit ?_ | refine awp_ret ?_ | refine awp_cond_f rfl (by first | rfl | assumption | exact dF (by omega)) ?_ | (show AWL _ _ _ (⟨_, .move _, _, _, _, _⟩ :: _) _ _ _; refine awl_pw (wt_none rfl) (pv_move rfl rfl) rfl rfl ?_) | (show AWL _ _ _ (⟨_, .assign _, _, _, _, _⟩ :: _) _ _ _; refine awl_pw (wt_none rfl) (pv_assign rfl rfl) rfl rfl ?_) | (show AWL _ _ _ (⟨_, .binOp .lss _ _ _ _, _, _, _, _⟩ :: _) _ _ _; refine awl_pw (wt_none rfl) (pv_lss rfl rfl rfl) rfl rfl ?_) | refine awl_nil ?_)
    exact body_p (.cons rfl (.cons rfl .nil)) rfl
  have hsk := hs _ (getD_mem (d := default) hkt)
  have hb := filP_bd hs i k hk
  have hb1 := addS_bd (b := decide ((l.getD k default).buyer = i)) hsk hb
  have hst : filP l i (k + 1) = addS (decide ((l.getD k default).seller = i)) (addS (decide ((l.getD k default).buyer = i)) (filP l i k) (l.getD k default)) (l.getD k default) := rfl
  generalize hx0 : filP l i k = x0 at *
  generalize hx1 : addS (decide ((l.getD k default).buyer = i)) x0 (l.getD k default) = x1 at *
  obtain ⟨ln, lm⟩ := hsk
  repeat (first | refine awp_seq ?_ | refine awp_block ?_ | refine awp_region_lit rfl ?_ | refine awp_skip ?_ | refine awp_cond_t rfl (by first | rfl | assumption | exact dT (by omega)) ?_ | (show AWL _ _ _ (⟨_, .load _ _, _, _, _, _⟩ :: _) _ _ _; refine awl_lw (wt_none rfl) (lv_elt_ag T0 rfl rfl rfl rfl (by solve | repeat' constructor)) rfl rfl rfl ?_) | (show AWL _ _ _ (⟨_, .indexAddr _ _ _, _, _, _, _⟩ :: _) _ _ _; refine awl_pw (wt_none rfl) (pv_ix_t T0 rfl rfl rfl rfl (by omega) (by first | exact (rfl : Int.toNat 0 = 0) | exact Int.toNat_natCast _ | rfl)) rfl rfl ?_) | (show AWL _ _ _ (⟨_, .binOp .lss _ _ _ _, _, _, _, _⟩ :: _) _ _ _; refine awl_pw (wt_none rfl) (pv_lss rfl rfl rfl) rfl rfl ?_) | refine awl_nil ?_)
  refine awl_hw (wt_none rfl) (st_alloc T0 rfl rfl rfl rfl (by simp only [Value.cells, List.toList_toArray, List.map_cons, List.map_nil]; rfl) ?_)
  intro g7
  repeat (first | refine awp_seq ?_ | refine awp_region_lit rfl ?_ | (show AWL _ _ _ (⟨_, .store _ _ _, _, _, _, _⟩ :: _) _ _ _; refine awl_hw (wt_none rfl) (st_store T0 rfl rfl rfl rfl rfl (by first | assumption | (simp only [cellsA]; rfl)) rfl rfl rfl (by solve | repeat' constructor) (by solve | repeat' constructor) trivial ?_)) | refine awl_nil ?_)
  refine awl_hw (wt_none rfl) (st_call T0 (sides_p) rfl rfl rfl rfl (by first | exact callee_lit | exact callee_v | exact callee_fn | assumption) (by solve | repeat' constructor) (by first | rfl | assumption) rfl ?_)
  rintro _ rfl
  repeat (first | refine awp_block ?_ | (show AWL _ _ _ (⟨_, .move _, _, _, _, _⟩ :: _) _ _ _; refine awl_pw (wt_none rfl) (pv_move rfl rfl) rfl rfl ?_) | refine awl_nil ?_)
  generalize l.getD k default = sx at *
  refine awp_loop (fun m s h => ∃ (x : Int × Int) (j : Int), ((m = 2 ∧ j = 0 ∧ x = x0) ∨ (m = 1 ∧ j = 1 ∧ x = x1) ∨ (m = 0 ∧ j = 2 ∧ x = filP l i (k + 1))) ∧ s = [(1, intA i), (4, intA x.1), (5, intA x.2), (10, .t (salesT c l)), (11, intA l.length), (12, intA k), (7, .v (ptrV g7)), (16, .ag [fnV 96, fnV 97]), (17, intA j)] ∧ h = [.cl g7 75 (saleRow sx)]) ?_ ⟨x0, 0, .inl ⟨rfl, rfl, rfl⟩, rfl, rfl⟩ (by first | ((repeat' (first | exact True.intro | refine ⟨rfl, ?_⟩)); all_goals fail) | fail) (by solve | repeat' constructor)
  rintro m s h ⟨x, j, (⟨rfl, rfl, rfl⟩ | ⟨rfl, rfl, rfl⟩ | ⟨rfl, rfl, rfl⟩), rfl, rfl⟩
  · repeat (first | refine awp_seq ?_ | refine awp_block ?_ | refine awp_region_lit rfl ?_ | refine awp_skip ?_ | refine awp_cond_t rfl (by first | rfl | assumption | exact dT (by omega)) ?_ | (show AWL _ _ _ (⟨_, .index _ _ _, _, _, _, _⟩ :: _) _ _ _; refine awl_pw (wt_none rfl) (pv_index T0 rfl rfl rfl rfl rfl (by omega) (by first | rfl | (simp; rfl)) rfl (by first | exact .inl rfl | exact .inr rfl) rfl) rfl rfl ?_) | (show AWL _ _ _ (⟨_, .binOp .lss _ _ _ _, _, _, _, _⟩ :: _) _ _ _; refine awl_pw (wt_none rfl) (pv_lss rfl rfl rfl) rfl rfl ?_) | refine awl_nil ?_)
    refine awl_hw (wt_none rfl) (st_alloc T0 rfl rfl rfl rfl (by simp only [Value.cells, List.toList_toArray, List.map_cons, List.map_nil]; rfl) ?_)
    intro g9
    repeat (first | refine awp_seq ?_ | refine awp_region_lit rfl ?_ | (show AWL _ _ _ (⟨_, .load _ _, _, _, _, _⟩ :: _) _ _ _; refine awl_lw (wt_none rfl) (lv_cl1 T0 rfl rfl rfl (by solve | repeat' constructor) (by first | rfl | assumption)) rfl rfl rfl ?_) | (show AWL _ _ _ (⟨_, .load _ _, _, _, _, _⟩ :: _) _ _ _; refine awl_lw (wt_none rfl) (lv_cla T0 rfl rfl rfl (by solve | repeat' constructor) rfl) rfl rfl rfl ?_) | (show AWL _ _ _ (⟨_, .fieldAddr _ _ _, _, _, _, _⟩ :: _) _ _ _; refine awl_pw (wt_none rfl) (pv_fa T0 rfl rfl rfl (by simp; rfl)) rfl rfl ?_) | (show AWL _ _ _ (⟨_, .store _ _ _, _, _, _, _⟩ :: _) _ _ _; refine awl_hw (wt_none rfl) (st_store T0 rfl rfl rfl rfl rfl (by first | assumption | (simp only [cellsA]; rfl)) rfl rfl rfl (by solve | repeat' constructor) (by solve | repeat' constructor) trivial ?_)) | refine awl_nil ?_)
    refine awl_hw (wt_none rfl) (st_call T0 (buyer_p sx) rfl rfl rfl rfl (by first | exact callee_lit | exact callee_v | exact callee_fn | assumption) (by solve | repeat' constructor) (by first | rfl | assumption) rfl ?_)
    rintro _ rfl
    repeat (first | refine then_n ?_ | (show AWL _ _ _ (⟨_, .move _, _, _, _, _⟩ :: _) _ _ _; refine awl_pw (wt_none rfl) (pv_move rfl rfl) rfl rfl ?_) | (show AWL _ _ _ (⟨_, .binOp .eql _ _ _ _, _, _, _, _⟩ :: _) _ _ _; refine awl_pw (wt_none rfl) (pv_eql rfl rfl rfl) rfl rfl ?_) | refine awl_nil ?_)
    by_cases hc : sx.buyer = i
    · have d1 := decide_eq_true hc
      rw [d1] at hx1
      have e1 : x1 = (x.1 + sx.num, x.2 + sx.num * sx.price) := hx1.symm
      repeat (first | refine awp_seq ?_ | refine awp_region_lit rfl ?_ | refine awp_cond_t rfl (by first | rfl | assumption | exact dT (by omega)) ?_ | (show AWL _ _ _ (⟨_, .move _, _, _, _, _⟩ :: _) _ _ _; refine awl_pw (wt_none rfl) (pv_move rfl rfl) rfl rfl ?_) | (show AWL _ _ _ (⟨_, .assign _, _, _, _, _⟩ :: _) _ _ _; refine awl_pw (wt_none rfl) (pv_assign rfl rfl) rfl rfl ?_) | (show AWL _ _ _ (⟨_, .load _ _, _, _, _, _⟩ :: _) _ _ _; refine awl_lw (wt_none rfl) (lv_cl1 T0 rfl rfl rfl (by solve | repeat' constructor) (by first | rfl | assumption)) rfl rfl rfl ?_) | (show AWL _ _ _ (⟨_, .fieldAddr _ _ _, _, _, _, _⟩ :: _) _ _ _; refine awl_pw (wt_none rfl) (pv_fa T0 rfl rfl rfl (by simp; rfl)) rfl rfl ?_) | (show AWL _ _ _ (⟨_, .binOp .add _ _ _ _, _, _, _, _⟩ :: _) _ _ _; refine awl_pw (wt_none rfl) (pv_add rfl rfl rfl (by first | assumption | exact wr64 (by omega))) rfl rfl ?_) | (show AWL _ _ _ (⟨_, .binOp .mul _ _ _ _, _, _, _, _⟩ :: _) _ _ _; refine awl_pw (wt_none rfl) (pv_mul rfl rfl rfl (by first | assumption | exact wr64 (by omega))) rfl rfl ?_) | refine awl_nil ?_)
      refine rnd_n _ _ _ ?_ ⟨(x.1 + sx.num, x.2 + sx.num * sx.price), 1, .inr (.inl ⟨rfl, rfl, e1.symm⟩), rfl, rfl⟩ (by first | ((repeat' (first | exact True.intro | refine ⟨rfl, ?_⟩)); all_goals fail) | fail) (by solve | repeat' constructor)
      omega
    · have d1 := decide_eq_false hc
      rw [d1] at hx1
      have e1 : x1 = x := hx1.symm
      repeat (first | refine awp_region_lit rfl ?_ | refine awp_skip ?_ | refine awp_cond_f rfl (by first | rfl | assumption | exact dF (by omega)) ?_ | (show AWL _ _ _ (⟨_, .move _, _, _, _, _⟩ :: _) _ _ _; refine awl_pw (wt_none rfl) (pv_move rfl rfl) rfl rfl ?_) | (show AWL _ _ _ (⟨_, .binOp .add _ _ _ _, _, _, _, _⟩ :: _) _ _ _; refine awl_pw (wt_none rfl) (pv_add rfl rfl rfl (by first | assumption | exact wr64 (by omega))) rfl rfl ?_) | refine awl_nil ?_)
      refine rnd_n _ _ _ ?_ ⟨x, 1, .inr (.inl ⟨rfl, rfl, e1.symm⟩), rfl, rfl⟩ (by first | ((repeat' (first | exact True.intro | refine ⟨rfl, ?_⟩)); all_goals fail) | fail) (by solve | repeat' constructor)
      omega
  · repeat (first | refine awp_seq ?_ | refine awp_block ?_ | refine awp_region_lit rfl ?_ | refine awp_skip ?_ | refine awp_cond_t rfl (by first | rfl | assumption | exact dT (by omega)) ?_ | (show AWL _ _ _ (⟨_, .index _ _ _, _, _, _, _⟩ :: _) _ _ _; refine awl_pw (wt_none rfl) (pv_index T0 rfl rfl rfl rfl rfl (by omega) (by first | rfl | (simp; rfl)) rfl (by first | exact .inl rfl | exact .inr rfl) rfl) rfl rfl ?_) | (show AWL _ _ _ (⟨_, .binOp .lss _ _ _ _, _, _, _, _⟩ :: _) _ _ _; refine awl_pw (wt_none rfl) (pv_lss rfl rfl rfl) rfl rfl ?_) | refine awl_nil ?_)
    refine awl_hw (wt_none rfl) (st_alloc T0 rfl rfl rfl rfl (by simp only [Value.cells, List.toList_toArray, List.map_cons, List.map_nil]; rfl) ?_)
    intro g9
    repeat (first | refine awp_seq ?_ | refine awp_region_lit rfl ?_ | (show AWL _ _ _ (⟨_, .load _ _, _, _, _, _⟩ :: _) _ _ _; refine awl_lw (wt_none rfl) (lv_cl1 T0 rfl rfl rfl (by solve | repeat' constructor) (by first | rfl | assumption)) rfl rfl rfl ?_) | (show AWL _ _ _ (⟨_, .load _ _, _, _, _, _⟩ :: _) _ _ _; refine awl_lw (wt_none rfl) (lv_cla T0 rfl rfl rfl (by solve | repeat' constructor) rfl) rfl rfl rfl ?_) | (show AWL _ _ _ (⟨_, .fieldAddr _ _ _, _, _, _, _⟩ :: _) _ _ _; refine awl_pw (wt_none rfl) (pv_fa T0 rfl rfl rfl (by simp; rfl)) rfl rfl ?_) | (show AWL _ _ _ (⟨_, .store _ _ _, _, _, _, _⟩ :: _) _ _ _; refine awl_hw (wt_none rfl) (st_store T0 rfl rfl rfl rfl rfl (by first | assumption | (simp only [cellsA]; rfl)) rfl rfl rfl (by solve | repeat' constructor) (by solve | repeat' constructor) trivial ?_)) | refine awl_nil ?_)
    refine awl_hw (wt_none rfl) (st_call T0 (seller_p sx) rfl rfl rfl rfl (by first | exact callee_lit | exact callee_v | exact callee_fn | assumption) (by solve | repeat' constructor) (by first | rfl | assumption) rfl ?_)
    rintro _ rfl
    repeat (first | refine then_n ?_ | (show AWL _ _ _ (⟨_, .move _, _, _, _, _⟩ :: _) _ _ _; refine awl_pw (wt_none rfl) (pv_move rfl rfl) rfl rfl ?_) | (show AWL _ _ _ (⟨_, .binOp .eql _ _ _ _, _, _, _, _⟩ :: _) _ _ _; refine awl_pw (wt_none rfl) (pv_eql rfl rfl rfl) rfl rfl ?_) | refine awl_nil ?_)
    by_cases hc : sx.seller = i
    · have d1 := decide_eq_true hc
      rw [d1] at hst
      have e1 : filP l i (k + 1) = (x.1 + sx.num, x.2 + sx.num * sx.price) := hst
      repeat (first | refine awp_seq ?_ | refine awp_region_lit rfl ?_ | refine awp_cond_t rfl (by first | rfl | assumption | exact dT (by omega)) ?_ | (show AWL _ _ _ (⟨_, .move _, _, _, _, _⟩ :: _) _ _ _; refine awl_pw (wt_none rfl) (pv_move rfl rfl) rfl rfl ?_) | (show AWL _ _ _ (⟨_, .assign _, _, _, _, _⟩ :: _) _ _ _; refine awl_pw (wt_none rfl) (pv_assign rfl rfl) rfl rfl ?_) | (show AWL _ _ _ (⟨_, .load _ _, _, _, _, _⟩ :: _) _ _ _; refine awl_lw (wt_none rfl) (lv_cl1 T0 rfl rfl rfl (by solve | repeat' constructor) (by first | rfl | assumption)) rfl rfl rfl ?_) | (show AWL _ _ _ (⟨_, .fieldAddr _ _ _, _, _, _, _⟩ :: _) _ _ _; refine awl_pw (wt_none rfl) (pv_fa T0 rfl rfl rfl (by simp; rfl)) rfl rfl ?_) | (show AWL _ _ _ (⟨_, .binOp .add _ _ _ _, _, _, _, _⟩ :: _) _ _ _; refine awl_pw (wt_none rfl) (pv_add rfl rfl rfl (by first | assumption | exact wr64 (by omega))) rfl rfl ?_) | (show AWL _ _ _ (⟨_, .binOp .mul _ _ _ _, _, _, _, _⟩ :: _) _ _ _; refine awl_pw (wt_none rfl) (pv_mul rfl rfl rfl (by first | assumption | exact wr64 (by omega))) rfl rfl ?_) | refine awl_nil ?_)
      refine rnd_n _ _ _ ?_ ⟨(x.1 + sx.num, x.2 + sx.num * sx.price), 2, .inr (.inr ⟨rfl, rfl, e1.symm⟩), rfl, rfl⟩ (by first | ((repeat' (first | exact True.intro | refine ⟨rfl, ?_⟩)); all_goals fail) | fail) (by solve | repeat' constructor)
      omega
    · have d1 := decide_eq_false hc
      rw [d1] at hst
      have e1 : filP l i (k + 1) = x := hst
      repeat (first | refine awp_region_lit rfl ?_ | refine awp_skip ?_ | refine awp_cond_f rfl (by first | rfl | assumption | exact dF (by omega)) ?_ | (show AWL _ _ _ (⟨_, .move _, _, _, _, _⟩ :: _) _ _ _; refine awl_pw (wt_none rfl) (pv_move rfl rfl) rfl rfl ?_) | (show AWL _ _ _ (⟨_, .binOp .add _ _ _ _, _, _, _, _⟩ :: _) _ _ _; refine awl_pw (wt_none rfl) (pv_add rfl rfl rfl (by first | assumption | exact wr64 (by omega))) rfl rfl ?_) | refine awl_nil ?_)
      refine rnd_n _ _ _ ?_ ⟨x, 2, .inr (.inr ⟨rfl, rfl, e1.symm⟩), rfl, rfl⟩ (by first | ((repeat' (first | exact True.intro | refine ⟨rfl, ?_⟩)); all_goals fail) | fail) (by solve | repeat' constructor)
      omega
  · repeat (first | refine awp_seq ?_ | refine awp_region_lit rfl ?_ | refine awp_exit ?_ | refine awp_cond_f rfl (by first | rfl | assumption | exact dF (by omega)) ?_ | (show AWL _ _ _ (⟨_, .move _, _, _, _, _⟩ :: _) _ _ _; refine awl_pw (wt_none rfl) (pv_move rfl rfl) rfl rfl ?_) | (show AWL _ _ _ (⟨_, .binOp .add _ _ _ _, _, _, _, _⟩ :: _) _ _ _; refine awl_pw (wt_none rfl) (pv_add rfl rfl rfl (by first | assumption | exact wr64 (by omega))) rfl rfl ?_) | (show AWL _ _ _ (⟨_, .binOp .lss _ _ _ _, _, _, _, _⟩ :: _) _ _ _; refine awl_pw (wt_none rfl) (pv_lss rfl rfl rfl) rfl rfl ?_) | refine awl_nil ?_)
    refine rnd_n _ _ _ ?_ ⟨k + 1, hkt, rfl, rfl, rfl⟩ (by first | ((repeat' (first | exact True.intro | refine ⟨rfl, ?_⟩)); all_goals fail) | fail) (by solve | repeat' constructor)
    omega
/-- a range that also has a number -/
def wid (b : Bool) (r : Int × Int) (n : Int) : Int × Int := if b = true then (n, n) else (min r.1 n, max r.2 n)
section
variable {g3 g6 : Nat} {a c n : Int} {u : AV} {rest : List Ent}
theorem nw_3 {ops : Array Oper} (h : regF Try.f65 3 = some ops) :
    AWP Try.prog Try.f65.ntmps none (.region 3 ops true) (cutQ (fun s h => s = [(6, .v (ptrV g6))] ∧ h = [.cl g6 54 [intA (min a n), intA (max c n)]])) [(1, intA n), (3, .v (ptrV g3)), (6, .v (ptrV g6))] [.cl g3 54 [intA a, intA c], .cl g6 54 [intA 0, intA 0]] := by
  cases h
  refine awp_tree T0 [(0, 0), (1, 1), (2, 0), (5, 0), (6, 1), (7, 0), (8, 0), (3, 2), (4, 2), (9, 0), (10, 3)] (.op 0 0 (.op 1 1 (.op 2 0 (.op 5 0 (.op 6 1 (.op 7 0 (.op 8 0 (.op 3 2 (.op 4 2 (.op 9 0 (.op 10 3 .stop))))))))))) [.cl g3 _ _] rfl (by kernel_rfl) (by solve | repeat' constructor) ?_
  refine awt_po rfl (wt_none rfl) (pv_fa T0 rfl rfl rfl (by simp; rfl)) rfl rfl ?_
  refine awt_lo rfl (wt_none rfl) (lv_cl1 T0 rfl rfl rfl (by solve | repeat' constructor) (by first | rfl | assumption)) rfl rfl rfl ?_
  refine awt_po rfl (wt_none rfl) (pv_move rfl rfl) rfl rfl ?_
  refine awt_po rfl (wt_none rfl) (pv_fa T0 rfl rfl rfl (by simp; rfl)) rfl rfl ?_
  refine awt_lo rfl (wt_none rfl) (lv_cl1 T0 rfl rfl rfl (by solve | repeat' constructor) (by first | rfl | assumption)) rfl rfl rfl ?_
  refine awt_po rfl (wt_none rfl) (pv_move rfl rfl) rfl rfl ?_
  refine awt_po rfl (wt_none rfl) (pv_max2 rfl rfl rfl) rfl rfl ?_
  refine awt_h (hm := []) rfl (wt_none rfl) (by solve | repeat' constructor) rfl (st_bsl T0 rfl rfl rfl rfl rfl (by solve | repeat' constructor) rfl rfl rfl rfl (by simp only [List.map_cons, List.map_nil, cellsA]; rfl) ?_)
  intro g14
  refine awt_h (hm := _) rfl (wt_none rfl) ?sub rfl (st_acall T0 (min2_o _ a n) rfl rfl rfl rfl (by first | exact callee_lit | exact callee_v | exact callee_fn | assumption) (by solve | repeat' constructor) (by first | rfl | assumption) rfl (by first | ((repeat' (first | exact SubH.refl _ | apply SubH.cons | exact Pick.here | apply Pick.there)); all_goals fail) | fail) (fun b hb => hb) ?_)
  case sub => exact (by solve | repeat' constructor)
  rintro r h' ⟨rfl, rfl⟩
  refine awt_n1 rfl (wt_none rfl) (pv_build T0 rfl rfl rfl (by simp only [Value.cells, List.toList_toArray, List.map_cons, List.map_nil]; rfl) (by first | ((repeat' (first | exact BParts.nil | apply BParts.cons | rfl)); all_goals fail) | fail) (by first | ((repeat' (first | exact FillA.nil | exact Sp.done | apply FillA.cons | apply Sp.put | apply Sp.skip | (simp only [cellsA]; rfl) | rfl)); all_goals fail) | fail)) rfl rfl rfl ?_
  refine awt_s (md := fun _ => True) rfl (wt_none rfl) (st_store T0 rfl rfl rfl rfl rfl (by first | assumption | (simp only [cellsA]; rfl)) rfl rfl rfl (by solve | repeat' constructor) (by solve | repeat' constructor) trivial ?_)
  refine awe_end ?_
  exact cut_n ⟨rfl, rfl⟩ (by first | ((repeat' (first | exact True.intro | refine ⟨rfl, ?_⟩)); all_goals fail) | fail) (by solve | repeat' constructor)
end
theorem wider_p (r : Int × Int) (n : Int) (b : Bool) : PCall Try.prog 65 [.ag [intA r.1, intA r.2], intA n, boolA b] (fun x => x = .ag [intA (wid b r n).1, intA (wid b r n).2]) := by
  refine acall_of_awp T0 Try.func65 rfl rfl rfl ?_
  repeat (first | refine awp_seq ?_ | refine awp_region_lit rfl ?_)
  refine awl_hw (wt_none rfl) (st_box rfl rfl (by first | rfl | assumption) (by first | assumption | (simp only [cellsA]; rfl)) rfl rfl ?_)
  intro g3
  skip
  refine awl_hw (wt_none rfl) (st_alloc T0 rfl rfl rfl rfl (by simp only [Value.cells, List.toList_toArray, List.map_cons, List.map_nil]; rfl) ?_)
  intro g6
  repeat (first | refine awp_seq ?_ | refine awp_region_lit rfl ?_ | refine then_n ?_ | (show AWL _ _ _ (⟨_, .move _, _, _, _, _⟩ :: _) _ _ _; refine awl_pw (wt_none rfl) (pv_move rfl rfl) rfl rfl ?_) | refine awl_nil ?_)
  cases b
  · repeat (first | refine awp_seq ?_ | refine awp_skip ?_ | refine awp_cond_f rfl (by first | rfl | assumption | exact dF (by omega)) ?_)
    refine awp_cut _ (awp_weak (by first | ((repeat' (first | exact True.intro | refine ⟨rfl, ?_⟩)); all_goals fail) | fail) (by solve | repeat' constructor) (nw_3 (g3 := g3) (g6 := g6) (a := r.1) (c := r.2) (n := n) rfl)) ?_
    rintro s h ⟨rfl, rfl⟩
    repeat (first | refine awp_ret ?_)
    exact body_p (.cons ⟨g6, _, _, _, _, rfl, rfl, (by solve | repeat' constructor), by simp, .inl rfl, rfl⟩ .nil) rfl
  · repeat (first | refine awp_seq ?_ | refine awp_region_lit rfl ?_ | refine awp_ret ?_ | refine then_r ?_ | refine awp_cond_t rfl (by first | rfl | assumption | exact dT (by omega)) ?_ | (show AWL _ _ _ (⟨_, .move _, _, _, _, _⟩ :: _) _ _ _; refine awl_pw (wt_none rfl) (pv_move rfl rfl) rfl rfl ?_) | (show AWL _ _ _ (⟨_, .build _ _, _, _, _, _⟩ :: _) _ _ _; refine awl_pw (wt_none rfl) (pv_build T0 rfl rfl rfl (by simp only [Value.cells, List.toList_toArray, List.map_cons, List.map_nil]; rfl) (by first | ((repeat' (first | exact BParts.nil | apply BParts.cons | rfl)); all_goals fail) | fail) (by first | ((repeat' (first | exact FillA.nil | exact Sp.done | apply FillA.cons | apply Sp.put | apply Sp.skip | (simp only [cellsA]; rfl) | rfl)); all_goals fail) | fail)) rfl rfl ?_) | (show AWL _ _ _ (⟨_, .store _ _ _, _, _, _, _⟩ :: _) _ _ _; refine awl_hw (wt_none rfl) (st_store T0 rfl rfl rfl rfl rfl (by first | assumption | (simp only [cellsA]; rfl)) rfl rfl rfl (by solve | repeat' constructor) (by solve | repeat' constructor) trivial ?_)) | refine awl_nil ?_)
    exact body_p (.cons ⟨g6, _, _, _, _, rfl, rfl, (by solve | repeat' constructor), by simp, .inl rfl, rfl⟩ .nil) rfl
end Go.Proofs.Yteaoclpikdmkiaa
