/- The iterator over dear stocks, and Sell: their walks. -/
import Derived.Test.YtfiacjdkdjkiiaaZfSl1
import Derived.Test.YtfiacjdkdjkiiaaTlp
namespace Go.Tl
open Go Go.RowKit
theorem pv_makeFunc_v {P : Program} {o : Oper} {s : Slots} {g : Fn} {first caps : Array Operand} {fs cs : List Value} (ho : o.op = .makeFunc g first caps) (hf : first.toList.map (evA s) = (fs.map AV.v).map some) (hc : caps.toList.map (evA s) = (cs.map AV.v).map some) :
    PV P o s (.v (.func g fs.toArray cs.toArray)) := fun w S a hs => by
  have h1 := VRels.lits_inv (hs.evals hf)
  have h2 := VRels.lits_inv (hs.evals hc)
  refine ⟨.func g (first.map a.eval) (caps.map a.eval), fun w' => by simp [execOp, ho, Instr.makeFunc], ?_⟩
  have e1 : first.map a.eval = (first.toList.map a.eval).toArray := by rw [← Array.toList_map]
  have e2 : caps.map a.eval = (caps.toList.map a.eval).toArray := by rw [← Array.toList_map]
  rw [e1, e2, h1, h2]
  exact .v _
end Go.Tl
namespace Go.Proofs.Ytfiacjdkdjkiiaa
open Go Go.RowKit Go.Tl
set_option linter.unusedVariables false
set_option linter.unusedSimpArgs false
set_option maxRecDepth 100000
set_option maxHeartbeats 4000000
attribute [local irreducible] AWP AWL AOp PV LV AWT AWE
def PreO (p : List Int) (n : Nat) (L : List (List AV)) : Prop := ∃ (ys : List Int) (k : Nat), Order n ys ∧ SortTo p ys n ∧ k ≤ n ∧ L = (ys.take k).map intRow
def FullO (p : List Int) (n : Nat) (L : List (List AV)) : Prop := ∃ ys : List Int, Order n ys ∧ SortTo p ys n ∧ L = ys.map intRow
abbrev ptrV (g : Nat) : Value := .pointer (some ⟨g, 0, none⟩)
theorem range_mem {n : Nat} (h : n ≤ 4) : ∀ x ∈ (List.range n).map Int.ofNat, 0 ≤ x ∧ x < 4 := fun x hx => by
  simp only [List.mem_map, List.mem_range] at hx
  obtain ⟨a, ha, rfl⟩ := hx
  simp only [Int.ofNat_eq_natCast]; omega
theorem take_snoc {ys : List Int} {k : Nat} (h : k < ys.length) : (ys.take k).map intRow ++ [intRow (ys.getD k 0)] = (ys.take (k + 1)).map intRow := by
  rw [List.take_succ_eq_append_getElem h, List.map_append]; simp [List.getD_eq_getElem?_getD, h]
theorem dear1_p (np ns n : Nat) (p : List Int) (h1 : 1 ≤ n) (h4 : n ≤ 4) : ISpecP Try.prog 100 (fun y => [] ++ [y] ++ [ptrV ns, ptrV np].map AV.v) [.cl ns 3 [intA n], .cl np 139 (arrRow p)] (PreO p n) (FullO p n) := by
  intro l C X hround o hC
  show ACall Try.prog 100 [.v (.func (.yield l) #[] #[]), .v (ptrV ns), .v (ptrV np)] _ _
  refine acall_of_awp T0 Try.func100 rfl rfl rfl ?_
  repeat (first | refine awp_seq ?_ | refine awp_block ?_ | refine awp_region_lit rfl ?_ | (show AWL _ _ _ (⟨_, .move _, _, _, _, _⟩ :: _) _ _ _; refine awl_pw (wt_none rfl) (pv_move rfl rfl) rfl rfl ?_) | (show AWL _ _ _ (⟨_, .assign _, _, _, _, _⟩ :: _) _ _ _; refine awl_pw (wt_none rfl) (pv_assign rfl rfl) rfl rfl ?_) | (show AWL _ _ _ (⟨_, .load _ _, _, _, _, _⟩ :: _) _ _ _; refine awl_lw (wt_none rfl) (lv_cl1 T0 rfl rfl rfl (by solve | repeat' constructor) (by first | rfl | assumption)) rfl rfl rfl ?_) | refine awl_nil ?_)
  refine awp_ghost (ghost_nilrow 3 1) ?_
  refine awp_loop (fun m s h => ∃ (k : Nat) (a : Option Addr) (c : Nat) (rows : List (List AV)), k ≤ n ∧ m = n - k ∧ (0 < k → ∃ g, a = some ⟨g, 0, none⟩) ∧ rows.length = k ∧ rows = ((List.range k).map Int.ofNat).map intRow ∧
    s = [(0, .v (.func (.yield l) #[] #[])), (1, .v (ptrV ns)), (2, .v (ptrV np)), (4, .v (.slice a k c)), (8, intA n), (9, intA k)] ∧ h = [.rw (.slice a k c) 3 1 rows, .ob o, .cl ns 3 [intA n], .cl np 139 (arrRow p)]) ?_ ⟨0, _, _, _, Nat.zero_le _, rfl, (fun h => absurd h (Nat.lt_irrefl _)), rfl, rfl, rfl, rfl⟩ (by first | ((repeat' (first | exact True.intro | refine ⟨rfl, ?_⟩)); all_goals fail) | fail) (by solve | repeat' constructor)
  rintro m s h ⟨k, a, c, rows, hk, rfl, ha, hn, hrows, rfl, rfl⟩
  by_cases hlt : k < n
  · repeat (first | refine awp_seq ?_ | refine awp_block ?_ | refine awp_region_lit rfl ?_ | refine awp_skip ?_ | refine awp_cond_t rfl (by first | rfl | assumption | exact dT (by omega)) ?_ | (show AWL _ _ _ (⟨_, .move _, _, _, _, _⟩ :: _) _ _ _; refine awl_pw (wt_none rfl) (pv_move rfl rfl) rfl rfl ?_) | (show AWL _ _ _ (⟨_, .assign _, _, _, _, _⟩ :: _) _ _ _; refine awl_pw (wt_none rfl) (pv_assign rfl rfl) rfl rfl ?_) | (show AWL _ _ _ (⟨_, .binOp .lss _ _ _ _, _, _, _, _⟩ :: _) _ _ _; refine awl_pw (wt_none rfl) (pv_lss rfl rfl rfl) rfl rfl ?_) | refine awl_nil ?_)
    refine awl_hw (wt_none rfl) (st_bsl T0 rfl rfl rfl rfl rfl (by solve | repeat' constructor) rfl rfl rfl rfl (by simp only [List.map_cons, List.map_nil, cellsA]; rfl) ?_)
    intro g14
    skip
    refine awl_hw (wt_none rfl) (st_app T0 rfl rfl rfl rfl rfl rfl rfl rfl rfl (by solve | repeat' constructor) (by solve | repeat' constructor) rfl rfl hn (by omega) (fun _ _ => trivial) ?_)
    intro a15 c15 p15
    repeat (first | refine awp_region_lit rfl ?_ | (show AWL _ _ _ (⟨_, .move _, _, _, _, _⟩ :: _) _ _ _; refine awl_pw (wt_none rfl) (pv_move rfl rfl) rfl rfl ?_) | (show AWL _ _ _ (⟨_, .assign _, _, _, _, _⟩ :: _) _ _ _; refine awl_pw (wt_none rfl) (pv_assign rfl rfl) rfl rfl ?_) | (show AWL _ _ _ (⟨_, .binOp .add _ _ _ _, _, _, _, _⟩ :: _) _ _ _; refine awl_pw (wt_none rfl) (pv_add rfl rfl rfl (by first | assumption | exact wr64 (by omega))) rfl rfl ?_) | refine awl_nil ?_)
    refine rnd_n _ _ _ ?_ ⟨k + 1, _, _, _, hlt, rfl, (fun _ => p15 (by omega)), ?_, ?_, rfl, rfl⟩ (by first | ((repeat' (first | exact True.intro | refine ⟨rfl, ?_⟩)); all_goals fail) | fail) (by solve | repeat' constructor)
    · omega
    · simp; omega
    · rw [hrows, List.range_succ, List.map_append, List.map_append]; rfl
  obtain rfl : k = n := by omega
  obtain ⟨g, rfl⟩ := ha (by omega)
  subst hrows
  repeat (first | refine awp_seq ?_ | refine awp_region_lit rfl ?_ | refine awp_exit ?_ | refine awp_cond_f rfl (by first | rfl | assumption | exact dF (by omega)) ?_ | (show AWL _ _ _ (⟨_, .move _, _, _, _, _⟩ :: _) _ _ _; refine awl_pw (wt_none rfl) (pv_move rfl rfl) rfl rfl ?_) | (show AWL _ _ _ (⟨_, .binOp .lss _ _ _ _, _, _, _, _⟩ :: _) _ _ _; refine awl_pw (wt_none rfl) (pv_lss rfl rfl rfl) rfl rfl ?_) | refine awl_nil ?_)
  refine awl_pw (wt_none rfl) (pv_makeFunc_v (fs := []) (cs := [ptrV np]) rfl rfl rfl) rfl rfl ?_
  skip
  refine awl_hw (wt_none rfl) (st_acall T0 (sort_p g np c k p ((List.range k).map Int.ofNat) (by simp) h1 h4 (range_mem h4)) rfl rfl rfl rfl (by first | exact callee_lit | exact callee_v | exact callee_fn) (by solve | repeat' constructor) rfl rfl (by first | ((repeat' (first | exact SubH.refl _ | apply SubH.cons | exact Pick.here | apply Pick.there)); all_goals fail) | fail) (fun _ _ => trivial) ?_)
  rintro r h ⟨ys, hperm, hsort, rfl⟩
  have hO := order_of hperm
  have hyl := hO.1
  refine awl_nil ?_
  refine awp_ghost (ghost_freeze (E := 3) (sz := 1) (n := ys.length) (rows := ys.map intRow) (d := 4) (fun q => [.sc (.int .i64 (ys.getD q 0))]) (by solve | repeat' constructor) rfl (by simp) (intRows_tree ys)) ?_
  repeat (first | refine awp_seq ?_ | refine awp_block ?_ | refine awp_region_lit rfl ?_ | (show AWL _ _ _ (⟨_, .move _, _, _, _, _⟩ :: _) _ _ _; refine awl_pw (wt_none rfl) (pv_move rfl rfl) rfl rfl ?_) | (show AWL _ _ _ (⟨_, .call ⟨.builtin .len, _, _⟩, _, _, _, _⟩ :: _) _ _ _; refine awl_pw (wt_none rfl) (pv_len_t T0 rfl rfl rfl) rfl rfl ?_) | refine awl_nil ?_)
  refine awp_loop (fun m s h => ∃ (k' : Nat) (o' : Ob), k' ≤ k ∧ m = k - k' ∧ C ((ys.take k').map intRow) o' ∧
    s = [(0, .v (.func (.yield l) #[] #[])), (20, .t (intsT true ys)), (21, intA ys.length), (22, intA k')] ∧ h = [.ob o']) ?_ ⟨0, o, Nat.zero_le _, rfl, hC, rfl, rfl⟩ (by first | ((repeat' (first | exact True.intro | refine ⟨rfl, ?_⟩)); all_goals fail) | fail) (by solve | repeat' constructor)
  rintro m s h ⟨k', o', hk', rfl, hC', rfl, rfl⟩
  by_cases hlt : k' < k
  · have hpre : PreO p k ((ys.take k').map intRow ++ [intRow (ys.getD k' 0)]) := ⟨ys, k' + 1, hO, hsort, hlt, take_snoc (by omega)⟩
    repeat (first | refine awp_seq ?_ | refine awp_block ?_ | refine awp_region_lit rfl ?_ | refine awp_skip ?_ | refine awp_cond_t rfl (by first | rfl | assumption | exact dT (by omega)) ?_ | (show AWL _ _ _ (⟨_, .move _, _, _, _, _⟩ :: _) _ _ _; refine awl_pw (wt_none rfl) (pv_move rfl rfl) rfl rfl ?_) | (show AWL _ _ _ (⟨_, .assign _, _, _, _, _⟩ :: _) _ _ _; refine awl_pw (wt_none rfl) (pv_assign rfl rfl) rfl rfl ?_) | (show AWL _ _ _ (⟨_, .load _ _, _, _, _, _⟩ :: _) _ _ _; refine awl_lw (wt_none rfl) (lv_elt_sc T0 rfl rfl rfl rfl) rfl rfl rfl ?_) | (show AWL _ _ _ (⟨_, .indexAddr _ _ _, _, _, _, _⟩ :: _) _ _ _; refine awl_pw (wt_none rfl) (pv_ix_t T0 rfl rfl rfl rfl (by omega) (by first | exact Int.toNat_natCast _ | rfl)) rfl rfl ?_) | (show AWL _ _ _ (⟨_, .binOp .lss _ _ _ _, _, _, _, _⟩ :: _) _ _ _; refine awl_pw (wt_none rfl) (pv_lss rfl rfl rfl) rfl rfl ?_) | refine awl_nil ?_)
    refine awl_hw (wt_none rfl) (aop_ycall (hround ((ys.take k').map intRow) (intRow (ys.getD k' 0)) hpre o' hC') rfl rfl rfl rfl (by solve | repeat' constructor) (by first | ((repeat' (first | exact SubH.refl _ | apply SubH.cons | exact Pick.here | apply Pick.there)); all_goals fail) | fail) (fun _ _ => trivial) ?_)
    rintro r h ⟨o2, rfl, (⟨rfl, hC2⟩ | ⟨rfl, hX2⟩)⟩
    · repeat (first | refine awp_region_lit rfl ?_ | refine awp_skip ?_ | refine then_n ?_ | refine awp_cond_f rfl (by first | rfl | assumption | exact dF (by omega)) ?_ | (show AWL _ _ _ (⟨_, .move _, _, _, _, _⟩ :: _) _ _ _; refine awl_pw (wt_none rfl) (pv_move rfl rfl) rfl rfl ?_) | (show AWL _ _ _ (⟨_, .binOp .add _ _ _ _, _, _, _, _⟩ :: _) _ _ _; refine awl_pw (wt_none rfl) (pv_add rfl rfl rfl (by first | assumption | exact wr64 (by omega))) rfl rfl ?_) | (show AWL _ _ _ (⟨_, .unOp .not _ _, _, _, _, _⟩ :: _) _ _ _; refine awl_pw (wt_none rfl) (pv_not rfl rfl) rfl rfl ?_) | refine awl_nil ?_)
      rw [take_snoc (by omega)] at hC2
      refine rnd_n _ _ _ ?_ ⟨k' + 1, o2, hlt, rfl, hC2, rfl, rfl⟩ (by first | ((repeat' (first | exact True.intro | refine ⟨rfl, ?_⟩)); all_goals fail) | fail) (by solve | repeat' constructor)
      omega
    · repeat (first | refine awp_ret ?_ | refine then_n ?_ | refine then_r ?_ | refine blk_r ?_ | refine rnd_r ?_ | refine awp_cond_t rfl (by first | rfl | assumption | exact dT (by omega)) ?_ | (show AWL _ _ _ (⟨_, .unOp .not _ _, _, _, _, _⟩ :: _) _ _ _; refine awl_pw (wt_none rfl) (pv_not rfl rfl) rfl rfl ?_) | refine awl_nil ?_)
      exact body_r (h' := [.ob o2]) .nil (by solve | repeat' constructor) ⟨o2, rfl, .inr ⟨_, hpre, hX2⟩⟩
  · obtain rfl : k' = k := by omega
    repeat (first | refine awp_seq ?_ | refine awp_region_lit rfl ?_ | refine awp_exit ?_ | refine then_x ?_ | refine blk_x ?_ | refine rnd_x ?_ | refine awp_cond_f rfl (by first | rfl | assumption | exact dF (by omega)) ?_ | (show AWL _ _ _ (⟨_, .binOp .lss _ _ _ _, _, _, _, _⟩ :: _) _ _ _; refine awl_pw (wt_none rfl) (pv_lss rfl rfl rfl) rfl rfl ?_) | refine awl_nil ?_)
    rw [List.take_of_length_le (by omega)] at hC'
    exact body_n .nil (by solve | repeat' constructor) ⟨o', rfl, .inl ⟨_, ⟨ys, hO, hsort, rfl⟩, hC'⟩⟩
theorem dear_p (n : Nat) (p : List Int) : ACall Try.prog 82 [.ag (arrRow p), intA n] [] (fun r h' => ∃ np ns, r = .v (.func (.func 100) #[] #[ptrV ns, ptrV np]) ∧ h' = [.cl ns 3 [intA n], .cl np 139 (arrRow p)]) := by
  refine acall_of_awp T0 Try.func82 rfl rfl rfl ?_
  repeat (first | refine awp_seq ?_ | refine awp_region_lit rfl ?_)
  refine awl_hw (wt_none rfl) (st_box rfl rfl rfl (by simp only [cellsA]; rfl) rfl rfl ?_)
  intro g2
  skip
  refine awl_hw (wt_none rfl) (st_box rfl rfl rfl (by simp only [cellsA]; rfl) rfl rfl ?_)
  intro g3
  repeat (first | refine awp_seq ?_ | refine awp_region_lit rfl ?_ | (show AWL _ _ _ (⟨_, .assign _, _, _, _, _⟩ :: _) _ _ _; refine awl_pw (wt_none rfl) (pv_assign rfl rfl) rfl rfl ?_) | refine awl_nil ?_)
  refine awl_pw (wt_none rfl) (pv_makeFunc_v (fs := []) (cs := [ptrV g3, ptrV g2]) rfl rfl rfl) rfl rfl ?_
  repeat (first | refine awp_ret ?_ | (show AWL _ _ _ (⟨_, .assign _, _, _, _, _⟩ :: _) _ _ _; refine awl_pw (wt_none rfl) (pv_assign rfl rfl) rfl rfl ?_) | refine awl_nil ?_)
  exact body_r (h' := [.cl g3 3 [intA n], .cl g2 139 (arrRow p)]) (.cons rfl .nil) (by solve | repeat' constructor) ⟨g2, g3, rfl, rfl⟩
end Go.Proofs.Ytfiacjdkdjkiiaa
