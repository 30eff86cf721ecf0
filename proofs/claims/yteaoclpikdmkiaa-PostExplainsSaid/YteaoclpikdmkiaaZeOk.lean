/- The reference's Play: walk. -/
import Derived.Test.YteaoclpikdmkiaaZeOk0
import Derived.Test.YteaoclpikdmkiaaTlw
import Derived.Test.YteaoclpikdmkiaaTy
import Derived.Test.YteaoclpikdmkiaaTz
import Derived.Test.YteaoclpikdmkiaaTv
namespace Go.Proofs.Yteaoclpikdmkiaa
open Go Go.RowKit Go.Tl
set_option linter.unusedVariables false
set_option linter.unusedSimpArgs false
set_option maxRecDepth 100000
set_option maxHeartbeats 4000000
attribute [local irreducible] AWP AWL AOp PV LV AWT AWE
theorem refplay_p (cp ct : Bool) (p : PostD) (t : List Int) (hv : VPost p) (ht : truthB p t = true) : PCall Try.prog 27 [postA cp p, .t (intsT ct t)] (fun r => r = .t (salesT true (playT p t))) := by
  have hlen := hv.len
  have hpos := hv.pos
  obtain ⟨htl, htr⟩ := truth_iff.1 ht
  have hnd := srt_nodup (comes_srt t)
  have hlt := comes_lt ht
  have hcl := comes_len hv ht
  refine acall_of_awp T0 Try.func27 rfl rfl rfl ?_
  repeat (first | refine awp_seq ?_ | refine awp_region_lit rfl ?_)
  refine awl_hw (by first | exact wt_none rfl | exact wt_some' rfl rfl rfl rfl (by first | rfl | assumption | exact dT (by omega) | exact dF (by omega))) (st_box rfl rfl (by first | rfl | assumption) (by first | assumption | (simp only [cellsA]; rfl)) rfl rfl ?_)
  intro g2
  repeat (first | refine awp_seq ?_ | refine awp_region_lit rfl ?_ | ((first | (show AWL _ _ _ (⟨_, .assign _, _, _, _, _⟩ :: _) _ _ _; refine awl_pw ?wtq (pv_assign rfl rfl) rfl rfl ?_)); case wtq => first | exact wt_none rfl | exact wt_some' rfl rfl rfl rfl (by first | rfl | assumption | exact dT (by omega) | exact dF (by omega))) | refine awl_nil ?_)
  refine awl_hw (by first | exact wt_none rfl | exact wt_some' rfl rfl rfl rfl (by first | rfl | assumption | exact dT (by omega) | exact dF (by omega))) (st_alloc T0 rfl rfl rfl rfl (by simp only [Value.cells, List.toList_toArray, List.map_cons, List.map_nil]; rfl) ?_)
  intro g6
  repeat (first | refine awp_seq ?_ | refine awp_region_lit rfl ?_ | ((first | (show AWL _ _ _ (⟨_, .move _, _, _, _, _⟩ :: _) _ _ _; refine awl_pw ?wtq (pv_move rfl rfl) rfl rfl ?_) | (show AWL _ _ _ (⟨_, .load _ _, _, _, _, _⟩ :: _) _ _ _; refine awl_lw ?wtq (lv_cla T0 rfl rfl rfl (by solve | repeat' constructor) rfl) rfl rfl rfl ?_)); case wtq => first | exact wt_none rfl | exact wt_some' rfl rfl rfl rfl (by first | rfl | assumption | exact dT (by omega) | exact dF (by omega))) | refine awl_nil ?_)
  refine awl_hw (by first | exact wt_none rfl | exact wt_some' rfl rfl rfl rfl (by first | rfl | assumption | exact dT (by omega) | exact dF (by omega))) (st_call T0 (comes_p cp ct p t (by omega)) rfl rfl rfl rfl (by first | exact callee_lit | exact callee_v | exact callee_fn | assumption) (by solve | repeat' constructor) (by first | rfl | assumption) rfl ?_)
  rintro _ rfl
  repeat (first | refine awp_seq ?_ | refine awp_block ?_ | refine awp_region_lit rfl ?_ | ((first | (show AWL _ _ _ (⟨_, .assign _, _, _, _, _⟩ :: _) _ _ _; refine awl_pw ?wtq (pv_assign rfl rfl) rfl rfl ?_)); case wtq => first | exact wt_none rfl | exact wt_some' rfl rfl rfl rfl (by first | rfl | assumption | exact dT (by omega) | exact dF (by omega))) | refine awl_nil ?_)
  have hpd : playT p t = (runN p ((comesN t).take (comesN t).length)).log := by rw [List.take_length]; rfl
  generalize hl : comesN t = l at *
  refine awp_ghost (ghost_nilrow 94 4) ?_
  refine awp_loop (fun w s h => ∃ (k : Nat) (a : Option Addr) (c : Nat), k ≤ l.length ∧ w = l.length - k ∧ s = [(2, .v (ptrV g2)), (5, .v (.slice a (runN p (l.take k)).log.length c)), (6, .v (ptrV g6)), (7, .t (intsT true (natsI l))), (8, intA k)] ∧ h = [.rw (.slice a (runN p (l.take k)).log.length c) 94 4 ((runN p (l.take k)).log.map saleRow), .cl g6 102 (arrI (runN p (l.take k)).left 6), .cl g2 24 [.t (ordsT cp p.ords)]]) ?_ ⟨0, none, 0, Nat.zero_le _, rfl, rfl, rfl⟩ (by first | ((repeat' (first | exact True.intro | refine ⟨rfl, ?_⟩)); all_goals fail) | fail) (by solve | repeat' constructor)
  rintro w s h ⟨k, a, c, hk, rfl, rfl, rfl⟩
  have hnl : (natsI l).length = l.length := natsI_len l
  by_cases hkt : k < l.length
  case neg =>
    obtain rfl : k = l.length := by omega
    rw [← hpd]
    repeat (first | refine awp_seq ?_ | refine awp_region_lit rfl ?_ | refine awp_exit ?_ | refine awp_ret ?_ | refine then_n ?_ | refine awp_cond_f rfl (by first | rfl | assumption | exact dF (by omega)) ?_ | ((first | (show AWL _ _ _ (⟨_, .move _, _, _, _, _⟩ :: _) _ _ _; refine awl_pw ?wtq (pv_move rfl rfl) rfl rfl ?_) | (show AWL _ _ _ (⟨_, .assign _, _, _, _, _⟩ :: _) _ _ _; refine awl_pw ?wtq (pv_assign rfl rfl) rfl rfl ?_) | (show AWL _ _ _ (⟨_, .binOp .lss _ _ _ _, _, _, _, _⟩ :: _) _ _ _; refine awl_pw ?wtq (pv_lss rfl rfl rfl) rfl rfl ?_) | (show AWL _ _ _ (⟨_, .call ⟨.builtin .len, _, _⟩, _, _, _, _⟩ :: _) _ _ _; refine awl_pw ?wtq (pv_len_t T0 rfl rfl rfl) rfl rfl ?_)); case wtq => first | exact wt_none rfl | exact wt_some' rfl rfl rfl rfl (by first | rfl | assumption | exact dT (by omega) | exact dF (by omega))) | refine awl_nil ?_)
    refine bodyQ_ghost (ghost_freeze (E := 94) (sz := 4) (n := (playT p t).length) (rows := (playT p t).map saleRow) (d := 4) (fun q => saleL ((playT p t).getD q default)) (by solve | repeat' constructor) rfl (List.length_map _) (rows_tree (playT p t) saleRow saleL (fun _ => rfl))) ?_
    exact body_p (.cons rfl .nil) rfl
  have e1 : (natsI l).getD k 0 = (l.getD k 0 : Nat) := by simp [natsI, List.getD_eq_getElem?_getD, hkt]
  have hik : l.getD k 0 ∈ l := getD_mem (by omega)
  have htk : l.take (k + 1) = l.take k ++ [l.getD k 0] := by
    rw [List.take_add_one, List.getD_eq_getElem?_getD, List.getElem?_eq_getElem (by omega)]; rfl
  have hst : runN p (l.take (k + 1)) = comeN p (runN p (l.take k)) (l.getD k 0) := by rw [htk, run_snoc]
  have hok := fok_run hv (l := l.take k) (hnd.sublist (List.take_sublist _ _)) (fun i hi => hlt i (List.mem_of_mem_take hi))
  have hcame : (runN p (l.take k)).came = natsI (l.take k) := run_came _ _
  have hcm : ∀ m, m < k → (natsI l).getD m 0 = (runN p (l.take k)).came.getD m 0 := fun m hm => by
    rw [hcame]
    simp only [natsI, List.getD_eq_getElem?_getD, List.getElem?_map, List.getElem?_take]
    rw [if_pos hm]
  have hckl : (runN p (l.take k)).came.length = k := by rw [hcame, natsI_len, List.length_take]; omega
  have hni : ((l.getD k 0 : Nat) : Int) ∉ (runN p (l.take k)).came := by
    rw [run_came]
    intro hm
    obtain ⟨j, hj, e⟩ := List.mem_map.1 hm
    have e' : (j : Int) = ((l.getD k 0 : Nat) : Int) := e
    obtain rfl : j = l.getD k 0 := by omega
    have h5 := hnd.sublist (List.take_sublist (k + 1) l)
    rw [htk] at h5
    exact (List.nodup_append.1 h5).2.2 _ hj _ (by simp) rfl
  have hll := hok.log
  have hi := hlt _ hik
  have hst2 : comeN p (runN p (l.take k)) (l.getD k 0) = runN p (l.take (k + 1)) := hst.symm
  generalize hF' : runN p (l.take (k + 1)) = F' at *
  generalize l.getD k 0 = i at *
  generalize hF : runN p (l.take k) = F at *
  have hi6 : i < 6 := by omega
  have hnum := hv.num i hi
  repeat (first | refine awp_seq ?_ | refine awp_block ?_ | refine awp_region_lit rfl ?_ | refine awp_skip ?_ | refine then_n ?_ | refine awp_cond_t rfl (by first | rfl | assumption | exact dT (by omega)) ?_ | ((first | (show AWL _ _ _ (⟨_, .move _, _, _, _, _⟩ :: _) _ _ _; refine awl_pw ?wtq (pv_move rfl rfl) rfl rfl ?_) | (show AWL _ _ _ (⟨_, .assign _, _, _, _, _⟩ :: _) _ _ _; refine awl_pw ?wtq (pv_assign rfl rfl) rfl rfl ?_) | (show AWL _ _ _ (⟨_, .load _ _, _, _, _, _⟩ :: _) _ _ _; refine awl_lw ?wtq (lv_cl1 T0 rfl rfl rfl (by solve | repeat' constructor) (by first | rfl | assumption)) rfl rfl rfl ?_) | (show AWL _ _ _ (⟨_, .load _ _, _, _, _, _⟩ :: _) _ _ _; refine awl_lw ?wtq (lv_elt_sc T0 rfl rfl rfl rfl) rfl rfl rfl ?_) | (show AWL _ _ _ (⟨_, .load _ _, _, _, _, _⟩ :: _) _ _ _; refine awl_lw ?wtq (lv_elt_ag T0 rfl rfl rfl rfl (by solve | repeat' constructor)) rfl rfl rfl ?_) | (show AWL _ _ _ (⟨_, .fieldAddr _ _ _, _, _, _, _⟩ :: _) _ _ _; refine awl_pw ?wtq (pv_fa T0 rfl rfl rfl (by simp; rfl)) rfl rfl ?_) | (show AWL _ _ _ (⟨_, .indexAddr _ _ _, _, _, _, _⟩ :: _) _ _ _; refine awl_pw ?wtq (pv_ix_t T0 rfl rfl rfl rfl (by omega) (by first | exact (rfl : Int.toNat 0 = 0) | exact Int.toNat_natCast _ | rfl)) rfl rfl ?_) | (show AWL _ _ _ (⟨_, .binOp .lss _ _ _ _, _, _, _, _⟩ :: _) _ _ _; refine awl_pw ?wtq (pv_lss rfl rfl rfl) rfl rfl ?_) | (show AWL _ _ _ (⟨_, .call ⟨.builtin .len, _, _⟩, _, _, _, _⟩ :: _) _ _ _; refine awl_pw ?wtq (pv_len_t T0 rfl rfl rfl) rfl rfl ?_)); case wtq => first | exact wt_none rfl | exact wt_some' rfl rfl rfl rfl (by first | rfl | assumption | exact dT (by omega) | exact dF (by omega))) | refine awl_nil ?_)
  rw [e1]
  skip
  refine awl_hw (by first | exact wt_none rfl | exact wt_some' rfl rfl rfl rfl (by first | rfl | assumption | exact dT (by omega) | exact dF (by omega))) (st_alloc T0 rfl rfl rfl rfl (by simp only [Value.cells, List.toList_toArray, List.map_cons, List.map_nil]; rfl) ?_)
  intro g10
  repeat (first | refine awp_seq ?_ | refine awp_region_lit rfl ?_ | ((first | (show AWL _ _ _ (⟨_, .move _, _, _, _, _⟩ :: _) _ _ _; refine awl_pw ?wtq (pv_move rfl rfl) rfl rfl ?_) | (show AWL _ _ _ (⟨_, .load _ _, _, _, _, _⟩ :: _) _ _ _; refine awl_lw ?wtq (lv_cl1 T0 rfl rfl rfl (by solve | repeat' constructor) (by first | rfl | assumption)) rfl rfl rfl ?_) | (show AWL _ _ _ (⟨_, .fieldAddr _ _ _, _, _, _, _⟩ :: _) _ _ _; refine awl_pw ?wtq (pv_fa T0 rfl rfl rfl (by simp; rfl)) rfl rfl ?_) | (show AWL _ _ _ (⟨_, .indexAddr _ _ _, _, _, _, _⟩ :: _) _ _ _; refine awl_pw ?wtq (pv_ix_arr T0 rfl rfl rfl rfl (by omega) (by simp; rfl)) rfl rfl ?_)); case wtq => first | exact wt_none rfl | exact wt_some' rfl rfl rfl rfl (by first | rfl | assumption | exact dT (by omega) | exact dF (by omega))) | (show AWL _ _ _ (⟨_, .store _ _ _, _, _, _, _⟩ :: _) _ _ _; refine awl_hw (by first | exact wt_none rfl | exact wt_some' rfl rfl rfl rfl (by first | rfl | assumption | exact dT (by omega) | exact dF (by omega))) (st_store T0 rfl rfl rfl rfl rfl (by first | assumption | (simp only [cellsA]; rfl)) rfl rfl rfl (by solve | repeat' constructor) (by solve | repeat' constructor) trivial ?_)) | refine awl_nil ?_)
  refine awl_hw (wt_none rfl) (st_arrI (n := 6) (d := F.left) (d' := fun q => if q = i then (oAt p i).num else F.left q) T0 rfl rfl rfl rfl rfl (by solve | repeat' constructor) hi6 (fun q _ => rfl) trivial ?_)
  repeat (first | refine awp_block ?_ | refine awl_nil ?_)
  obtain ⟨R, hR⟩ : ∃ R, matchN p (oAt p i) i F.came 20 (fun q => if q = i then (oAt p i).num else F.left q, F.log) = R := ⟨_, rfl⟩
  have hcN : comeN p F i = ⟨R.1, F.came ++ [(i : Int)], R.2⟩ := by unfold comeN; rw [hR]
  refine awp_cutX2 (fun s h => ∃ (a : Option Addr) (c : Nat), s = [(2, .v (ptrV g2)), (5, .v (.slice a R.2.length c)), (6, .v (ptrV g6)), (7, .t (intsT true (natsI l))), (8, intA k)] ∧ h = [.rw (.slice a R.2.length c) 94 4 (R.2.map saleRow), .cl g6 102 (arrI R.1 6), .cl g2 24 [.t (ordsT cp p.ords)]]) ?_ ?_
  rotate_left
  · rintro s h ⟨a, c, rfl, rfl⟩
    have h1 : F'.left = R.1 := by rw [hst, hcN]
    have h2 : F'.log = R.2 := by rw [hst, hcN]
    rw [← h1, ← h2, ← hF']
    repeat (first | refine awp_region_lit rfl ?_ | ((first | (show AWL _ _ _ (⟨_, .move _, _, _, _, _⟩ :: _) _ _ _; refine awl_pw ?wtq (pv_move rfl rfl) rfl rfl ?_) | (show AWL _ _ _ (⟨_, .assign _, _, _, _, _⟩ :: _) _ _ _; refine awl_pw ?wtq (pv_assign rfl rfl) rfl rfl ?_) | (show AWL _ _ _ (⟨_, .binOp .add _ _ _ _, _, _, _, _⟩ :: _) _ _ _; refine awl_pw ?wtq (pv_add rfl rfl rfl (by first | assumption | exact wr64 (by omega))) rfl rfl ?_)); case wtq => first | exact wt_none rfl | exact wt_some' rfl rfl rfl rfl (by first | rfl | assumption | exact dT (by omega) | exact dF (by omega))) | refine awl_nil ?_)
    refine rnd_n _ _ _ ?_ ⟨k + 1, a, c, hkt, rfl, rfl, rfl⟩ (by first | ((repeat' (first | exact True.intro | refine ⟨rfl, ?_⟩)); all_goals fail) | fail) (by solve | repeat' constructor)
    omega
  refine awp_loop (fun w s h => ∃ (L : Nat → Int) (log : List SaleD) (a : Option Addr) (c : Nat), w ≤ 20 ∧ matchN p (oAt p i) i F.came w (L, log) = R ∧ L i ≤ w ∧ (∀ q, q < 6 → 0 ≤ L q ∧ L q ≤ 20) ∧ log.length + w ≤ 220 ∧ s = [(2, .v (ptrV g2)), (5, .v (.slice a log.length c)), (6, .v (ptrV g6)), (7, .t (intsT true (natsI l))), (8, intA k), (9, intA i), (10, .v (ptrV g10))] ∧ h = [.rw (.slice a log.length c) 94 4 (log.map saleRow), .cl g6 102 (arrI L 6), .cl g2 24 [.t (ordsT cp p.ords)], .cl g10 58 (ordRow (oAt p i))]) ?_ ⟨_, F.log, a, c, Nat.le_refl 20, hR, ?_, ?_, by omega, rfl, rfl⟩ (by first | ((repeat' (first | exact True.intro | refine ⟨rfl, ?_⟩)); all_goals fail) | fail) (by solve | repeat' constructor)
  rotate_left
  · show (if i = i then (oAt p i).num else F.left i) ≤ _
    rw [if_pos rfl]; exact hnum.2
  · intro q hq
    show 0 ≤ (if q = i then (oAt p i).num else F.left q) ∧ (if q = i then (oAt p i).num else F.left q) ≤ 20
    have := hok.left q hq
    split
    · exact ⟨by have := hnum.1; show 0 ≤ (p.ords.getD i default).num; omega, hnum.2⟩
    · exact this
  clear hR hcN hst hst2
  rintro w s h ⟨L, log, a, c, hw, hL, hLi, hLb, hlw, rfl, rfl⟩
  have r1 : (arrI L 6)[i]? = some (intA (L i)) := arrI_at hi6
  have hst : ∀ (H : ¬ 0 < L i ∨ restN p L (oAt p i) F.came F.came.length < 0), R = (L, log) := fun H => by rw [← hL]; exact match_stop H w
  cases e2 : decide (0 < L i)
  · obtain rfl := hst (.inl (of_decide_eq_false e2))
    repeat (first | refine awp_seq ?_ | refine awp_region_lit rfl ?_ | refine awp_exit ?_ | refine then_n ?_ | refine then_x ?_ | refine blk_x ?_ | refine rnd_x ?_ | refine awp_cond_f rfl (by first | rfl | assumption | exact dF (by omega)) ?_ | ((first | (show AWL _ _ _ (⟨_, .move _, _, _, _, _⟩ :: _) _ _ _; refine awl_pw ?wtq (pv_move rfl rfl) rfl rfl ?_) | (show AWL _ _ _ (⟨_, .load _ _, _, _, _, _⟩ :: _) _ _ _; refine awl_lw ?wtq (lv_cl1 T0 rfl rfl rfl (by solve | repeat' constructor) (by first | rfl | assumption)) rfl rfl rfl ?_) | (show AWL _ _ _ (⟨_, .indexAddr _ _ _, _, _, _, _⟩ :: _) _ _ _; refine awl_pw ?wtq (pv_ix_arr T0 rfl rfl rfl rfl (by omega) (by simp; rfl)) rfl rfl ?_) | (show AWL _ _ _ (⟨_, .binOp .gtr _ _ _ _, _, _, _, _⟩ :: _) _ _ _; refine awl_pw ?wtq (pv_gtr rfl rfl rfl) rfl rfl ?_)); case wtq => first | exact wt_none rfl | exact wt_some' rfl rfl rfl rfl (by first | rfl | assumption | exact dT (by omega) | exact dF (by omega))) | refine awl_nil ?_)
    exact cut_n ⟨a, c, rfl, rfl⟩ (by first | ((repeat' (first | exact True.intro | refine ⟨rfl, ?_⟩)); all_goals fail) | fail) (by solve | repeat' constructor)
  repeat (first | refine awp_seq ?_ | refine awp_block ?_ | refine awp_region_lit rfl ?_ | refine awp_skip ?_ | refine then_n ?_ | refine awp_cond_t rfl (by first | rfl | assumption | exact dT (by omega)) ?_ | ((first | (show AWL _ _ _ (⟨_, .move _, _, _, _, _⟩ :: _) _ _ _; refine awl_pw ?wtq (pv_move rfl rfl) rfl rfl ?_) | (show AWL _ _ _ (⟨_, .assign _, _, _, _, _⟩ :: _) _ _ _; refine awl_pw ?wtq (pv_assign rfl rfl) rfl rfl ?_) | (show AWL _ _ _ (⟨_, .load _ _, _, _, _, _⟩ :: _) _ _ _; refine awl_lw ?wtq (lv_cl1 T0 rfl rfl rfl (by solve | repeat' constructor) (by first | rfl | assumption)) rfl rfl rfl ?_) | (show AWL _ _ _ (⟨_, .indexAddr _ _ _, _, _, _, _⟩ :: _) _ _ _; refine awl_pw ?wtq (pv_ix_arr T0 rfl rfl rfl rfl (by omega) (by simp; rfl)) rfl rfl ?_) | (show AWL _ _ _ (⟨_, .binOp .gtr _ _ _ _, _, _, _, _⟩ :: _) _ _ _; refine awl_pw ?wtq (pv_gtr rfl rfl rfl) rfl rfl ?_)); case wtq => first | exact wt_none rfl | exact wt_some' rfl rfl rfl rfl (by first | rfl | assumption | exact dT (by omega) | exact dF (by omega))) | refine awl_nil ?_)
  refine awp_cutX (fun s h => s = [(2, .v (ptrV g2)), (5, .v (.slice a log.length c)), (6, .v (ptrV g6)), (7, .t (intsT true (natsI l))), (8, intA k), (9, intA i), (10, .v (ptrV g10)), (11, intA (restN p L (oAt p i) F.came F.came.length))] ∧ h = [.rw (.slice a log.length c) 94 4 (log.map saleRow), .cl g6 102 (arrI L 6), .cl g2 24 [.t (ordsT cp p.ords)], .cl g10 58 (ordRow (oAt p i))]) ?_ ?_
  · refine awp_loop (fun w s h => ∃ (m : Nat), m ≤ k ∧ w = k - m ∧ s = [(2, .v (ptrV g2)), (5, .v (.slice a log.length c)), (6, .v (ptrV g6)), (7, .t (intsT true (natsI l))), (8, intA k), (9, intA i), (10, .v (ptrV g10)), (11, intA (restN p L (oAt p i) F.came m)), (12, intA m)] ∧ h = [.rw (.slice a log.length c) 94 4 (log.map saleRow), .cl g6 102 (arrI L 6), .cl g2 24 [.t (ordsT cp p.ords)], .cl g10 58 (ordRow (oAt p i))]) ?_ ⟨0, Nat.zero_le _, rfl, rfl, rfl⟩ (by first | ((repeat' (first | exact True.intro | refine ⟨rfl, ?_⟩)); all_goals fail) | fail) (by solve | repeat' constructor)
    rintro w s h ⟨m, hm, rfl, rfl, rfl⟩
    by_cases hmk : m < k
    case neg =>
      obtain rfl : m = k := by omega
      rw [← hckl]
      repeat (first | refine awp_seq ?_ | refine awp_region_lit rfl ?_ | refine awp_exit ?_ | refine then_n ?_ | refine then_x ?_ | refine blk_x ?_ | refine rnd_x ?_ | refine awp_cond_f rfl (by first | rfl | assumption | exact dF (by omega)) ?_ | ((first | (show AWL _ _ _ (⟨_, .move _, _, _, _, _⟩ :: _) _ _ _; refine awl_pw ?wtq (pv_move rfl rfl) rfl rfl ?_) | (show AWL _ _ _ (⟨_, .binOp .lss _ _ _ _, _, _, _, _⟩ :: _) _ _ _; refine awl_pw ?wtq (pv_lss rfl rfl rfl) rfl rfl ?_)); case wtq => first | exact wt_none rfl | exact wt_some' rfl rfl rfl rfl (by first | rfl | assumption | exact dT (by omega) | exact dF (by omega))) | refine awl_nil ?_)
      exact cut_n ⟨rfl, rfl⟩ (by first | ((repeat' (first | exact True.intro | refine ⟨rfl, ?_⟩)); all_goals fail) | fail) (by solve | repeat' constructor)
    have hcx := hok.came _ (getD_mem (d := (0 : Int)) (show m < F.came.length by omega))
    obtain ⟨j, hj⟩ : ∃ j : Nat, F.came.getD m 0 = j := ⟨_, (Int.toNat_of_nonneg hcx.1).symm⟩
    have ej : (natsI l).getD m 0 = (j : Int) := by rw [hcm m hmk]; exact hj
    have hjn : j < p.ords.length := by omega
    have hj6 : j < 6 := by omega
    have hstep := rest_step (p := p) (L := L) (o := oAt p i) hj
    have hri := rest_in (p := p) (left := L) (o := oAt p i) (n := p.ords.length) (by omega) hok.came m (by omega)
    generalize restN p L (oAt p i) F.came m = bst at *
    have hLj := hLb j hj6
    repeat (first | refine awp_seq ?_ | refine awp_block ?_ | refine awp_region_lit rfl ?_ | refine awp_skip ?_ | refine then_n ?_ | refine awp_cond_t rfl (by first | rfl | assumption | exact dT (by omega)) ?_ | ((first | (show AWL _ _ _ (⟨_, .move _, _, _, _, _⟩ :: _) _ _ _; refine awl_pw ?wtq (pv_move rfl rfl) rfl rfl ?_) | (show AWL _ _ _ (⟨_, .assign _, _, _, _, _⟩ :: _) _ _ _; refine awl_pw ?wtq (pv_assign rfl rfl) rfl rfl ?_) | (show AWL _ _ _ (⟨_, .load _ _, _, _, _, _⟩ :: _) _ _ _; refine awl_lw ?wtq (lv_cl1 T0 rfl rfl rfl (by solve | repeat' constructor) (by first | rfl | assumption)) rfl rfl rfl ?_) | (show AWL _ _ _ (⟨_, .load _ _, _, _, _, _⟩ :: _) _ _ _; refine awl_lw ?wtq (lv_elt_sc T0 rfl rfl rfl rfl) rfl rfl rfl ?_) | (show AWL _ _ _ (⟨_, .load _ _, _, _, _, _⟩ :: _) _ _ _; refine awl_lw ?wtq (lv_elt_ag T0 rfl rfl rfl rfl (by solve | repeat' constructor)) rfl rfl rfl ?_) | (show AWL _ _ _ (⟨_, .fieldAddr _ _ _, _, _, _, _⟩ :: _) _ _ _; refine awl_pw ?wtq (pv_fa T0 rfl rfl rfl (by simp; rfl)) rfl rfl ?_) | (show AWL _ _ _ (⟨_, .indexAddr _ _ _, _, _, _, _⟩ :: _) _ _ _; refine awl_pw ?wtq (pv_ix_t T0 rfl rfl rfl rfl (by omega) (by first | exact (rfl : Int.toNat 0 = 0) | exact Int.toNat_natCast _ | rfl)) rfl rfl ?_) | (show AWL _ _ _ (⟨_, .binOp .lss _ _ _ _, _, _, _, _⟩ :: _) _ _ _; refine awl_pw ?wtq (pv_lss rfl rfl rfl) rfl rfl ?_)); case wtq => first | exact wt_none rfl | exact wt_some' rfl rfl rfl rfl (by first | rfl | assumption | exact dT (by omega) | exact dF (by omega))) | refine awl_nil ?_)
    rw [ej]
    skip
    refine awl_hw (by first | exact wt_none rfl | exact wt_some' rfl rfl rfl rfl (by first | rfl | assumption | exact dT (by omega) | exact dF (by omega))) (st_alloc T0 rfl rfl rfl rfl (by simp only [Value.cells, List.toList_toArray, List.map_cons, List.map_nil]; rfl) ?_)
    intro g14
    refine awl_hw (wt_none rfl) (st_whole T0 rfl rfl rfl rfl rfl rfl rfl rfl rfl (by solve | repeat' constructor) trivial ?_)
    repeat (first | refine awl_nil ?_ | refine then_n ?_ | refine awp_seq ?_ | refine awp_block ?_ | refine blk_n ?_)
    cases hb1 : decide (0 < L j) && meetsB (oAt p i) (oAt p j)
    · have hstep : restN p L (oAt p i) F.came (m + 1) = bst := by
        rw [hstep, if_neg]
        intro h
        simp only [Bool.and_eq_true] at h
        rw [h.1, h.2.1] at hb1
        cases hb1
      refine awp_cut _ (awp_weak (by first | ((repeat' (first | exact True.intro | refine ⟨rfl, ?_⟩)); all_goals fail) | fail) (by solve | repeat' constructor) (rp_17 (g2 := g2) (g6 := g6) (g10 := g10) (g14 := g14) (j := j) (cp := cp) (p := p) (L := L) (o := oAt p i) (x := oAt p j) (u5 := .v (.slice a log.length c)) (u7 := .t (intsT true (natsI l))) (u8 := intA k) (u9 := intA i) (u11 := intA bst) (u12 := intA m) (rest := [.rw (.slice a log.length c) 94 4 (log.map saleRow)]) hj6 hLj.1 hb1 rfl)) ?_
      rintro s h ⟨rfl, rfl⟩
      repeat (first | refine awp_region_lit rfl ?_ | refine awp_exit ?_ | refine awp_cond_t rfl (by first | rfl | assumption | exact dT (by omega)) ?_ | ((first | (show AWL _ _ _ (⟨_, .move _, _, _, _, _⟩ :: _) _ _ _; refine awl_pw ?wtq (pv_move rfl rfl) rfl rfl ?_) | (show AWL _ _ _ (⟨_, .assign _, _, _, _, _⟩ :: _) _ _ _; refine awl_pw ?wtq (pv_assign rfl rfl) rfl rfl ?_) | (show AWL _ _ _ (⟨_, .binOp .add _ _ _ _, _, _, _, _⟩ :: _) _ _ _; refine awl_pw ?wtq (pv_add rfl rfl rfl (by first | assumption | exact wr64 (by omega))) rfl rfl ?_)); case wtq => first | exact wt_none rfl | exact wt_some' rfl rfl rfl rfl (by first | rfl | assumption | exact dT (by omega) | exact dF (by omega))) | refine awl_nil ?_)
      refine rnd_n _ _ _ ?_ ⟨m + 1, hmk, rfl, by rw [hstep], rfl⟩ (by first | ((repeat' (first | exact True.intro | refine ⟨rfl, ?_⟩)); all_goals fail) | fail) (by solve | repeat' constructor)
      omega
    refine awp_cut _ (awp_weak (by first | ((repeat' (first | exact True.intro | refine ⟨rfl, ?_⟩)); all_goals fail) | fail) (by solve | repeat' constructor) (rp_17 (g2 := g2) (g6 := g6) (g10 := g10) (g14 := g14) (j := j) (cp := cp) (p := p) (L := L) (o := oAt p i) (x := oAt p j) (u5 := .v (.slice a log.length c)) (u7 := .t (intsT true (natsI l))) (u8 := intA k) (u9 := intA i) (u11 := intA bst) (u12 := intA m) (rest := [.rw (.slice a log.length c) 94 4 (log.map saleRow)]) hj6 hLj.1 hb1 rfl)) ?_
    rintro s h ⟨rfl, rfl⟩
    simp only [Bool.and_eq_true] at hb1
    rw [hb1.1, hb1.2, Bool.true_and, Bool.true_and] at hstep
    have hxb := meets_buy hb1.2
    repeat (first | refine awp_seq ?_ | refine awp_skip ?_ | refine awp_cond_f rfl (by first | rfl | assumption | exact dF (by omega)) ?_)
    by_cases hbs : bst < 0
    · rw [decide_eq_true hbs, Bool.true_or, if_pos rfl] at hstep
      refine awp_cut _ (awp_weak (by first | ((repeat' (first | exact True.intro | refine ⟨rfl, ?_⟩)); all_goals fail) | fail) (by solve | repeat' constructor) (rp_18a (g2 := g2) (g6 := g6) (g10 := g10) (g14 := g14) (cp := cp) (p := p) (L := L) (o := oAt p i) (x := oAt p j) (u5 := .v (.slice a log.length c)) (u7 := .t (intsT true (natsI l))) (u8 := intA k) (u9 := intA i) (best := bst) (u12 := intA m) (u13 := intA j) (rest := [.rw (.slice a log.length c) 94 4 (log.map saleRow)]) hbs rfl)) ?_
      rintro s h ⟨rfl, rfl⟩
      repeat (first | refine awp_region_lit rfl ?_ | refine awp_cond_t rfl (by first | rfl | assumption | exact dT (by omega)) ?_ | ((first | (show AWL _ _ _ (⟨_, .move _, _, _, _, _⟩ :: _) _ _ _; refine awl_pw ?wtq (pv_move rfl rfl) rfl rfl ?_) | (show AWL _ _ _ (⟨_, .assign _, _, _, _, _⟩ :: _) _ _ _; refine awl_pw ?wtq (pv_assign rfl rfl) rfl rfl ?_) | (show AWL _ _ _ (⟨_, .binOp .add _ _ _ _, _, _, _, _⟩ :: _) _ _ _; refine awl_pw ?wtq (pv_add rfl rfl rfl (by first | assumption | exact wr64 (by omega))) rfl rfl ?_)); case wtq => first | exact wt_none rfl | exact wt_some' rfl rfl rfl rfl (by first | rfl | assumption | exact dT (by omega) | exact dF (by omega))) | refine awl_nil ?_)
      refine rnd_n _ _ _ ?_ ⟨m + 1, hmk, rfl, by rw [hstep], rfl⟩ (by first | ((repeat' (first | exact True.intro | refine ⟨rfl, ?_⟩)); all_goals fail) | fail) (by solve | repeat' constructor)
      omega
    obtain ⟨bn, rfl⟩ : ∃ bn : Nat, bst = bn := ⟨bst.toNat, by omega⟩
    rw [decide_eq_false hbs, Bool.false_or, Int.toNat_natCast] at hstep
    have hbn : bn < p.ords.length := by omega
    have hbet : betterB (oAt p j) (oAt p bn) = if (oAt p i).buy = true then decide ((oAt p j).lim < (p.ords.getD bn default).lim) else decide ((p.ords.getD bn default).lim < (oAt p j).lim) := by
      unfold betterB
      rw [hxb]
      cases (oAt p i).buy <;> rfl
    rw [hbet] at hstep
    cases hob : (oAt p i).buy
    · rw [hob, if_neg Bool.false_ne_true] at hstep
      cases hc : decide ((p.ords.getD bn default).lim < (oAt p j).lim)
      · rw [hc, if_neg Bool.false_ne_true] at hstep
        refine awp_cut _ (awp_weak (by first | ((repeat' (first | exact True.intro | refine ⟨rfl, ?_⟩)); all_goals fail) | fail) (by solve | repeat' constructor) (rp_18c (b := false) (g2 := g2) (g6 := g6) (g10 := g10) (g14 := g14) (k := bn) (cp := cp) (p := p) (L := L) (o := oAt p i) (x := oAt p j) (u5 := .v (.slice a log.length c)) (u7 := .t (intsT true (natsI l))) (u8 := intA k) (u9 := intA i) (u12 := intA m) (u13 := intA j) (rest := [.rw (.slice a log.length c) 94 4 (log.map saleRow)]) hbn hob hc rfl)) ?_
        rintro s h ⟨rfl, rfl⟩
        repeat (first | refine awp_region_lit rfl ?_ | refine awp_skip ?_ | refine awp_cond_f rfl (by first | rfl | assumption | exact dF (by omega)) ?_ | ((first | (show AWL _ _ _ (⟨_, .move _, _, _, _, _⟩ :: _) _ _ _; refine awl_pw ?wtq (pv_move rfl rfl) rfl rfl ?_) | (show AWL _ _ _ (⟨_, .assign _, _, _, _, _⟩ :: _) _ _ _; refine awl_pw ?wtq (pv_assign rfl rfl) rfl rfl ?_) | (show AWL _ _ _ (⟨_, .binOp .add _ _ _ _, _, _, _, _⟩ :: _) _ _ _; refine awl_pw ?wtq (pv_add rfl rfl rfl (by first | assumption | exact wr64 (by omega))) rfl rfl ?_)); case wtq => first | exact wt_none rfl | exact wt_some' rfl rfl rfl rfl (by first | rfl | assumption | exact dT (by omega) | exact dF (by omega))) | refine awl_nil ?_)
        refine rnd_n _ _ _ ?_ ⟨m + 1, hmk, rfl, by rw [hstep], rfl⟩ (by first | ((repeat' (first | exact True.intro | refine ⟨rfl, ?_⟩)); all_goals fail) | fail) (by solve | repeat' constructor)
        omega
      · rw [hc, if_pos rfl] at hstep
        refine awp_cut _ (awp_weak (by first | ((repeat' (first | exact True.intro | refine ⟨rfl, ?_⟩)); all_goals fail) | fail) (by solve | repeat' constructor) (rp_18c (b := true) (g2 := g2) (g6 := g6) (g10 := g10) (g14 := g14) (k := bn) (cp := cp) (p := p) (L := L) (o := oAt p i) (x := oAt p j) (u5 := .v (.slice a log.length c)) (u7 := .t (intsT true (natsI l))) (u8 := intA k) (u9 := intA i) (u12 := intA m) (u13 := intA j) (rest := [.rw (.slice a log.length c) 94 4 (log.map saleRow)]) hbn hob hc rfl)) ?_
        rintro s h ⟨rfl, rfl⟩
        repeat (first | refine awp_region_lit rfl ?_ | refine awp_cond_t rfl (by first | rfl | assumption | exact dT (by omega)) ?_ | ((first | (show AWL _ _ _ (⟨_, .move _, _, _, _, _⟩ :: _) _ _ _; refine awl_pw ?wtq (pv_move rfl rfl) rfl rfl ?_) | (show AWL _ _ _ (⟨_, .assign _, _, _, _, _⟩ :: _) _ _ _; refine awl_pw ?wtq (pv_assign rfl rfl) rfl rfl ?_) | (show AWL _ _ _ (⟨_, .binOp .add _ _ _ _, _, _, _, _⟩ :: _) _ _ _; refine awl_pw ?wtq (pv_add rfl rfl rfl (by first | assumption | exact wr64 (by omega))) rfl rfl ?_)); case wtq => first | exact wt_none rfl | exact wt_some' rfl rfl rfl rfl (by first | rfl | assumption | exact dT (by omega) | exact dF (by omega))) | refine awl_nil ?_)
        refine rnd_n _ _ _ ?_ ⟨m + 1, hmk, rfl, by rw [hstep], rfl⟩ (by first | ((repeat' (first | exact True.intro | refine ⟨rfl, ?_⟩)); all_goals fail) | fail) (by solve | repeat' constructor)
        omega
    · rw [hob, if_pos rfl] at hstep
      cases hc : decide ((oAt p j).lim < (p.ords.getD bn default).lim)
      · rw [hc, if_neg Bool.false_ne_true] at hstep
        refine awp_cut _ (awp_weak (by first | ((repeat' (first | exact True.intro | refine ⟨rfl, ?_⟩)); all_goals fail) | fail) (by solve | repeat' constructor) (rp_18b (b := false) (g2 := g2) (g6 := g6) (g10 := g10) (g14 := g14) (k := bn) (cp := cp) (p := p) (L := L) (o := oAt p i) (x := oAt p j) (u5 := .v (.slice a log.length c)) (u7 := .t (intsT true (natsI l))) (u8 := intA k) (u9 := intA i) (u12 := intA m) (u13 := intA j) (rest := [.rw (.slice a log.length c) 94 4 (log.map saleRow)]) hbn hob hc rfl)) ?_
        rintro s h ⟨rfl, rfl⟩
        repeat (first | refine awp_region_lit rfl ?_ | refine awp_skip ?_ | refine awp_cond_f rfl (by first | rfl | assumption | exact dF (by omega)) ?_ | ((first | (show AWL _ _ _ (⟨_, .move _, _, _, _, _⟩ :: _) _ _ _; refine awl_pw ?wtq (pv_move rfl rfl) rfl rfl ?_) | (show AWL _ _ _ (⟨_, .assign _, _, _, _, _⟩ :: _) _ _ _; refine awl_pw ?wtq (pv_assign rfl rfl) rfl rfl ?_) | (show AWL _ _ _ (⟨_, .binOp .add _ _ _ _, _, _, _, _⟩ :: _) _ _ _; refine awl_pw ?wtq (pv_add rfl rfl rfl (by first | assumption | exact wr64 (by omega))) rfl rfl ?_)); case wtq => first | exact wt_none rfl | exact wt_some' rfl rfl rfl rfl (by first | rfl | assumption | exact dT (by omega) | exact dF (by omega))) | refine awl_nil ?_)
        refine rnd_n _ _ _ ?_ ⟨m + 1, hmk, rfl, by rw [hstep], rfl⟩ (by first | ((repeat' (first | exact True.intro | refine ⟨rfl, ?_⟩)); all_goals fail) | fail) (by solve | repeat' constructor)
        omega
      · rw [hc, if_pos rfl] at hstep
        refine awp_cut _ (awp_weak (by first | ((repeat' (first | exact True.intro | refine ⟨rfl, ?_⟩)); all_goals fail) | fail) (by solve | repeat' constructor) (rp_18b (b := true) (g2 := g2) (g6 := g6) (g10 := g10) (g14 := g14) (k := bn) (cp := cp) (p := p) (L := L) (o := oAt p i) (x := oAt p j) (u5 := .v (.slice a log.length c)) (u7 := .t (intsT true (natsI l))) (u8 := intA k) (u9 := intA i) (u12 := intA m) (u13 := intA j) (rest := [.rw (.slice a log.length c) 94 4 (log.map saleRow)]) hbn hob hc rfl)) ?_
        rintro s h ⟨rfl, rfl⟩
        repeat (first | refine awp_region_lit rfl ?_ | refine awp_cond_t rfl (by first | rfl | assumption | exact dT (by omega)) ?_ | ((first | (show AWL _ _ _ (⟨_, .move _, _, _, _, _⟩ :: _) _ _ _; refine awl_pw ?wtq (pv_move rfl rfl) rfl rfl ?_) | (show AWL _ _ _ (⟨_, .assign _, _, _, _, _⟩ :: _) _ _ _; refine awl_pw ?wtq (pv_assign rfl rfl) rfl rfl ?_) | (show AWL _ _ _ (⟨_, .binOp .add _ _ _ _, _, _, _, _⟩ :: _) _ _ _; refine awl_pw ?wtq (pv_add rfl rfl rfl (by first | assumption | exact wr64 (by omega))) rfl rfl ?_)); case wtq => first | exact wt_none rfl | exact wt_some' rfl rfl rfl rfl (by first | rfl | assumption | exact dT (by omega) | exact dF (by omega))) | refine awl_nil ?_)
        refine rnd_n _ _ _ ?_ ⟨m + 1, hmk, rfl, by rw [hstep], rfl⟩ (by first | ((repeat' (first | exact True.intro | refine ⟨rfl, ?_⟩)); all_goals fail) | fail) (by solve | repeat' constructor)
        omega
  rintro s h ⟨rfl, rfl⟩
  have hri := rest_in (p := p) (left := L) (o := oAt p i) (n := p.ords.length) (by omega) hok.came F.came.length (Nat.le_refl _)
  have hrm := rest_mem (p := p) (left := L) (o := oAt p i) (came := F.came) F.came.length (Nat.le_refl _)
  obtain ⟨w, rfl⟩ : ∃ w', w = w' + 1 := ⟨w - 1, by have := of_decide_eq_true e2; omega⟩
  simp only [matchN, if_pos (of_decide_eq_true e2)] at hL
  generalize restN p L (oAt p i) F.came F.came.length = b at *
  by_cases hb : b < 0
  · rw [if_pos hb] at hL
    subst hL
    have d3 := decide_eq_true hb
    repeat (first | refine awp_seq ?_ | refine awp_region_lit rfl ?_ | refine awp_exit ?_ | refine then_n ?_ | refine then_x ?_ | refine blk_x ?_ | refine blk_y rfl ?_ | refine rnd_x ?_ | refine awp_cond_t rfl (by first | rfl | assumption | exact dT (by omega)) ?_ | ((first | (show AWL _ _ _ (⟨_, .move _, _, _, _, _⟩ :: _) _ _ _; refine awl_pw ?wtq (pv_move rfl rfl) rfl rfl ?_) | (show AWL _ _ _ (⟨_, .binOp .lss _ _ _ _, _, _, _, _⟩ :: _) _ _ _; refine awl_pw ?wtq (pv_lss rfl rfl rfl) rfl rfl ?_)); case wtq => first | exact wt_none rfl | exact wt_some' rfl rfl rfl rfl (by first | rfl | assumption | exact dT (by omega) | exact dF (by omega))) | refine awl_nil ?_)
    exact cut_n ⟨a, c, rfl, rfl⟩ (by first | ((repeat' (first | exact True.intro | refine ⟨rfl, ?_⟩)); all_goals fail) | fail) (by solve | repeat' constructor)
  rw [if_neg hb] at hL
  have d3 := decide_eq_false hb
  obtain ⟨b, rfl⟩ : ∃ q : Nat, b = q := ⟨b.toNat, by omega⟩
  rw [Int.toNat_natCast] at hL hrm
  obtain ⟨hbm, hb0⟩ : (b : Int) ∈ F.came ∧ 0 < L b := hrm.resolve_left (by omega)
  have hbi : i ≠ b := fun e => hni (by rw [e]; exact hbm)
  have hb6 : b < 6 := by omega
  have hLk := hLb b hb6
  have hLi' := hLb i hi6
  have hi0 := of_decide_eq_true e2
  repeat (first | refine awp_seq ?_ | refine awp_region_lit rfl ?_ | refine awp_skip ?_ | refine then_n ?_ | refine awp_cond_f rfl (by first | rfl | assumption | exact dF (by omega)) ?_ | ((first | (show AWL _ _ _ (⟨_, .move _, _, _, _, _⟩ :: _) _ _ _; refine awl_pw ?wtq (pv_move rfl rfl) rfl rfl ?_) | (show AWL _ _ _ (⟨_, .load _ _, _, _, _, _⟩ :: _) _ _ _; refine awl_lw ?wtq (lv_cl1 T0 rfl rfl rfl (by solve | repeat' constructor) (by first | rfl | assumption)) rfl rfl rfl ?_) | (show AWL _ _ _ (⟨_, .load _ _, _, _, _, _⟩ :: _) _ _ _; refine awl_lw ?wtq (lv_elt_sc T0 rfl rfl rfl rfl) rfl rfl rfl ?_) | (show AWL _ _ _ (⟨_, .fieldAddr _ _ _, _, _, _, _⟩ :: _) _ _ _; refine awl_pw ?wtq (pv_fa T0 rfl rfl rfl (by simp; rfl)) rfl rfl ?_) | (show AWL _ _ _ (⟨_, .fieldAddr _ _ _, _, _, _, _⟩ :: _) _ _ _; refine awl_pw ?wtq (pv_fa_elt T0 rfl rfl rfl (by simp; rfl)) rfl rfl ?_) | (show AWL _ _ _ (⟨_, .indexAddr _ _ _, _, _, _, _⟩ :: _) _ _ _; refine awl_pw ?wtq (pv_ix_t T0 rfl rfl rfl rfl (by omega) (by first | exact (rfl : Int.toNat 0 = 0) | exact Int.toNat_natCast _ | rfl)) rfl rfl ?_) | (show AWL _ _ _ (⟨_, .build _ _, _, _, _, _⟩ :: _) _ _ _; refine awl_pw ?wtq (pv_build T0 rfl rfl rfl (by simp only [Value.cells, List.toList_toArray, List.map_cons, List.map_nil]; rfl) (by first | ((repeat' (first | exact BParts.nil | apply BParts.cons | rfl)); all_goals fail) | fail) (by first | ((repeat' (first | exact FillA.nil | exact Sp.done | apply FillA.cons | apply Sp.put | apply Sp.skip | (simp only [cellsA]; rfl) | rfl)); all_goals fail) | fail)) rfl rfl ?_) | (show AWL _ _ _ (⟨_, .binOp .lss _ _ _ _, _, _, _, _⟩ :: _) _ _ _; refine awl_pw ?wtq (pv_lss rfl rfl rfl) rfl rfl ?_)); case wtq => first | exact wt_none rfl | exact wt_some' rfl rfl rfl rfl (by first | rfl | assumption | exact dT (by omega) | exact dF (by omega))) | refine awl_nil ?_)
  refine awl_hw (by first | exact wt_none rfl | exact wt_some' rfl rfl rfl rfl (by first | rfl | assumption | exact dT (by omega) | exact dF (by omega))) (st_alloc T0 rfl rfl rfl rfl (by simp only [Value.cells, List.toList_toArray, List.map_cons, List.map_nil]; rfl) ?_)
  intro g15
  repeat (first | refine awp_seq ?_ | refine awp_region_lit rfl ?_ | refine then_n ?_ | ((first | (show AWL _ _ _ (⟨_, .load _ _, _, _, _, _⟩ :: _) _ _ _; refine awl_lw ?wtq (lv_cl1 T0 rfl rfl rfl (by solve | repeat' constructor) (by first | rfl | assumption)) rfl rfl rfl ?_) | (show AWL _ _ _ (⟨_, .fieldAddr _ _ _, _, _, _, _⟩ :: _) _ _ _; refine awl_pw ?wtq (pv_fa T0 rfl rfl rfl (by simp; rfl)) rfl rfl ?_) | (show AWL _ _ _ (⟨_, .unOp .not _ _, _, _, _, _⟩ :: _) _ _ _; refine awl_pw ?wtq (pv_not rfl rfl) rfl rfl ?_)); case wtq => first | exact wt_none rfl | exact wt_some' rfl rfl rfl rfl (by first | rfl | assumption | exact dT (by omega) | exact dF (by omega))) | (show AWL _ _ _ (⟨_, .store _ _ _, _, _, _, _⟩ :: _) _ _ _; refine awl_hw (by first | exact wt_none rfl | exact wt_some' rfl rfl rfl rfl (by first | rfl | assumption | exact dT (by omega) | exact dF (by omega))) (st_store T0 rfl rfl rfl rfl rfl (by first | assumption | (simp only [cellsA]; rfl)) rfl rfl rfl (by solve | repeat' constructor) (by solve | repeat' constructor) trivial ?_)) | refine awl_nil ?_)
  obtain ⟨mn, hmn⟩ : ∃ mn, min (L i) (L b) = mn := ⟨_, rfl⟩
  have hmn1 : 1 ≤ mn ∧ mn ≤ 20 ∧ mn ≤ L i ∧ mn ≤ L b ∧ (mn = L i ∨ mn = L b) := by omega
  rw [hmn] at hL
  have hrow : [intA (if (oAt p i).buy = true then (i : Int) else (b : Int)), intA (if (oAt p i).buy = true then (b : Int) else (i : Int)), intA mn, intA (p.ords.getD b default).lim] = saleRow (saleN p (oAt p i) i b mn) := by
    unfold saleN
    cases (oAt p i).buy <;> rfl
  generalize hx0 : (if (oAt p i).buy = true then (i : Int) else (b : Int)) = x0 at *
  generalize hx1 : (if (oAt p i).buy = true then (b : Int) else (i : Int)) = x1 at *
  refine awp_cut (fun s h => s = [(2, .v (ptrV g2)), (5, .v (.slice a log.length c)), (6, .v (ptrV g6)), (7, .t (intsT true (natsI l))), (8, intA k), (9, intA i), (10, .v (ptrV g10)), (11, intA b), (15, .v (ptrV g15))] ∧ h = [.cl g15 94 [intA x0, intA x1, intA 0, intA (p.ords.getD b default).lim], .rw (.slice a log.length c) 94 4 (log.map saleRow), .cl g6 102 (arrI L 6), .cl g2 24 [.t (ordsT cp p.ords)], .cl g10 58 (ordRow (oAt p i))]) ?_ ?_
  · cases hob : (oAt p i).buy
    · rw [hob, if_neg Bool.false_ne_true] at hx0 hx1
      subst hx0 hx1
      repeat (first | refine awp_region_lit rfl ?_ | refine awp_cond_t rfl (by first | rfl | assumption | exact dT (by omega)) ?_ | ((first | (show AWL _ _ _ (⟨_, .move _, _, _, _, _⟩ :: _) _ _ _; refine awl_pw ?wtq (pv_move rfl rfl) rfl rfl ?_) | (show AWL _ _ _ (⟨_, .fieldAddr _ _ _, _, _, _, _⟩ :: _) _ _ _; refine awl_pw ?wtq (pv_fa T0 rfl rfl rfl (by simp; rfl)) rfl rfl ?_)); case wtq => first | exact wt_none rfl | exact wt_some' rfl rfl rfl rfl (by first | rfl | assumption | exact dT (by omega) | exact dF (by omega))) | (show AWL _ _ _ (⟨_, .store _ _ _, _, _, _, _⟩ :: _) _ _ _; refine awl_hw (by first | exact wt_none rfl | exact wt_some' rfl rfl rfl rfl (by first | rfl | assumption | exact dT (by omega) | exact dF (by omega))) (st_store T0 rfl rfl rfl rfl rfl (by first | assumption | (simp only [cellsA]; rfl)) rfl rfl rfl (by solve | repeat' constructor) (by solve | repeat' constructor) trivial ?_)) | refine awl_nil ?_)
      exact cut_n ⟨rfl, rfl⟩ (by first | ((repeat' (first | exact True.intro | refine ⟨rfl, ?_⟩)); all_goals fail) | fail) (by solve | repeat' constructor)
    · rw [hob, if_pos rfl] at hx0 hx1
      subst hx0 hx1
      repeat (first | refine awp_skip ?_ | refine awp_cond_f rfl (by first | rfl | assumption | exact dF (by omega)) ?_)
      exact cut_n ⟨rfl, rfl⟩ (by first | ((repeat' (first | exact True.intro | refine ⟨rfl, ?_⟩)); all_goals fail) | fail) (by solve | repeat' constructor)
  rintro s h ⟨rfl, rfl⟩
  rw [← take_zero L i b]
  refine awp_seq ?_
  refine awp_block ?_
  refine awp_cutX (fun s h => s = [(2, .v (ptrV g2)), (5, .v (.slice a log.length c)), (6, .v (ptrV g6)), (7, .t (intsT true (natsI l))), (8, intA k), (9, intA i), (10, .v (ptrV g10)), (15, .v (ptrV g15))] ∧ h = [.cl g15 94 (saleRow (saleN p (oAt p i) i b mn)), .rw (.slice a log.length c) 94 4 (log.map saleRow), .cl g6 102 (arrI (takeN L i b mn) 6), .cl g2 24 [.t (ordsT cp p.ords)], .cl g10 58 (ordRow (oAt p i))]) ?_ ?_
  · refine awp_loop (fun w s h => ∃ (n : Nat), (n : Int) ≤ mn ∧ w = (mn - n).toNat ∧ s = [(2, .v (ptrV g2)), (5, .v (.slice a log.length c)), (6, .v (ptrV g6)), (7, .t (intsT true (natsI l))), (8, intA k), (9, intA i), (10, .v (ptrV g10)), (11, intA b), (15, .v (ptrV g15))] ∧ h = [.cl g15 94 [intA x0, intA x1, intA n, intA (p.ords.getD b default).lim], .rw (.slice a log.length c) 94 4 (log.map saleRow), .cl g6 102 (arrI (takeN L i b n) 6), .cl g2 24 [.t (ordsT cp p.ords)], .cl g10 58 (ordRow (oAt p i))]) ?_ ⟨0, by omega, rfl, rfl, rfl⟩ (by first | ((repeat' (first | exact True.intro | refine ⟨rfl, ?_⟩)); all_goals fail) | fail) (by solve | repeat' constructor)
    rintro w s h ⟨n, hn, rfl, rfl, rfl⟩
    have hta := take_at (L := L) (n := (n : Int)) hbi
    have q1 : (arrI (takeN L i b n) 6)[i]? = some (intA (L i - n)) := by rw [← hta.1]; exact arrI_at hi6
    have q2 : (arrI (takeN L i b n) 6)[b]? = some (intA (L b - n)) := by rw [← hta.2]; exact arrI_at hb6
    by_cases hlt : (n : Int) < mn
    · have d4 : decide (0 < L i - (n : Int)) = true := decide_eq_true (by omega)
      have d5 : decide (0 < L b - (n : Int)) = true := decide_eq_true (by omega)
      have hto := take_one (L := L) (n := (n : Int)) hbi
      rw [hta.1, hta.2] at hto
      have q3 : (arrI (fun q => if q = i then L i - (n : Int) - 1 else takeN L i b n q) 6)[b]? = some (intA (L b - n)) := by
        rw [arrI_at hb6]
        show some (intA (if b = i then _ else takeN L i b n b)) = _
        rw [if_neg (fun e => hbi e.symm), hta.2]
      repeat (first | refine awp_seq ?_ | refine awp_block ?_ | refine awp_region_lit rfl ?_ | refine awp_skip ?_ | refine then_n ?_ | refine awp_cond_t rfl (by first | rfl | assumption | exact dT (by omega)) ?_ | ((first | (show AWL _ _ _ (⟨_, .move _, _, _, _, _⟩ :: _) _ _ _; refine awl_pw ?wtq (pv_move rfl rfl) rfl rfl ?_) | (show AWL _ _ _ (⟨_, .load _ _, _, _, _, _⟩ :: _) _ _ _; refine awl_lw ?wtq (lv_cl1 T0 rfl rfl rfl (by solve | repeat' constructor) (by first | rfl | assumption)) rfl rfl rfl ?_) | (show AWL _ _ _ (⟨_, .indexAddr _ _ _, _, _, _, _⟩ :: _) _ _ _; refine awl_pw ?wtq (pv_ix_arr T0 rfl rfl rfl rfl (by omega) (by simp; rfl)) rfl rfl ?_) | (show AWL _ _ _ (⟨_, .binOp .sub _ _ _ _, _, _, _, _⟩ :: _) _ _ _; refine awl_pw ?wtq (pv_sub rfl rfl rfl (by first | assumption | exact wr64 (by omega))) rfl rfl ?_) | (show AWL _ _ _ (⟨_, .binOp .gtr _ _ _ _, _, _, _, _⟩ :: _) _ _ _; refine awl_pw ?wtq (pv_gtr rfl rfl rfl) rfl rfl ?_) | (show AWL _ _ _ (⟨_, .pick _ _ _, _, _, _, _⟩ :: _) _ _ _; refine awl_pw ?wtq (pv_pick_t rfl rfl (by first | rfl | assumption | exact dT (by omega) | exact dF (by omega)) rfl) rfl rfl ?_)); case wtq => first | exact wt_none rfl | exact wt_some' rfl rfl rfl rfl (by first | rfl | assumption | exact dT (by omega) | exact dF (by omega))) | refine awl_nil ?_)
      refine awl_hw (wt_none rfl) (st_arrI (n := 6) (d := takeN L i b n) (d' := fun q => if q = i then L i - (n : Int) - 1 else takeN L i b n q) T0 rfl rfl rfl rfl rfl (by solve | repeat' constructor) hi6 (fun q _ => rfl) trivial ?_)
      repeat (first | refine awp_seq ?_ | refine awp_region_lit rfl ?_ | ((first | (show AWL _ _ _ (⟨_, .move _, _, _, _, _⟩ :: _) _ _ _; refine awl_pw ?wtq (pv_move rfl rfl) rfl rfl ?_) | (show AWL _ _ _ (⟨_, .load _ _, _, _, _, _⟩ :: _) _ _ _; refine awl_lw ?wtq (lv_cl1 T0 rfl rfl rfl (by solve | repeat' constructor) (by first | rfl | assumption)) rfl rfl rfl ?_) | (show AWL _ _ _ (⟨_, .indexAddr _ _ _, _, _, _, _⟩ :: _) _ _ _; refine awl_pw ?wtq (pv_ix_arr T0 rfl rfl rfl rfl (by omega) (by simp; rfl)) rfl rfl ?_) | (show AWL _ _ _ (⟨_, .binOp .sub _ _ _ _, _, _, _, _⟩ :: _) _ _ _; refine awl_pw ?wtq (pv_sub rfl rfl rfl (by first | assumption | exact wr64 (by omega))) rfl rfl ?_)); case wtq => first | exact wt_none rfl | exact wt_some' rfl rfl rfl rfl (by first | rfl | assumption | exact dT (by omega) | exact dF (by omega))) | refine awl_nil ?_)
      refine awl_hw (wt_none rfl) (st_arrI (n := 6) (d := fun q => if q = i then L i - (n : Int) - 1 else takeN L i b n q) (d' := takeN L i b ((n : Int) + 1)) T0 rfl rfl rfl rfl rfl (by solve | repeat' constructor) hb6 hto trivial ?_)
      repeat (first | refine awp_region_lit rfl ?_ | refine blk_n ?_ | ((first | (show AWL _ _ _ (⟨_, .load _ _, _, _, _, _⟩ :: _) _ _ _; refine awl_lw ?wtq (lv_cl1 T0 rfl rfl rfl (by solve | repeat' constructor) (by first | rfl | assumption)) rfl rfl rfl ?_) | (show AWL _ _ _ (⟨_, .fieldAddr _ _ _, _, _, _, _⟩ :: _) _ _ _; refine awl_pw ?wtq (pv_fa T0 rfl rfl rfl (by simp; rfl)) rfl rfl ?_) | (show AWL _ _ _ (⟨_, .binOp .add _ _ _ _, _, _, _, _⟩ :: _) _ _ _; refine awl_pw ?wtq (pv_add rfl rfl rfl (by first | assumption | exact wr64 (by omega))) rfl rfl ?_)); case wtq => first | exact wt_none rfl | exact wt_some' rfl rfl rfl rfl (by first | rfl | assumption | exact dT (by omega) | exact dF (by omega))) | (show AWL _ _ _ (⟨_, .store _ _ _, _, _, _, _⟩ :: _) _ _ _; refine awl_hw (by first | exact wt_none rfl | exact wt_some' rfl rfl rfl rfl (by first | rfl | assumption | exact dT (by omega) | exact dF (by omega))) (st_store T0 rfl rfl rfl rfl rfl (by first | assumption | (simp only [cellsA]; rfl)) rfl rfl rfl (by solve | repeat' constructor) (by solve | repeat' constructor) trivial ?_)) | refine awl_nil ?_)
      refine rnd_n _ _ _ ?_ ⟨n + 1, by omega, rfl, rfl, rfl⟩ (by first | ((repeat' (first | exact True.intro | refine ⟨rfl, ?_⟩)); all_goals fail) | fail) (by solve | repeat' constructor)
      omega
    · obtain rfl : mn = n := by omega
      rw [← hrow]
      by_cases hz : 0 < L i - (n : Int)
      · have d4 := decide_eq_true hz
        have d5 : decide (0 < L b - (n : Int)) = false := decide_eq_false (by omega)
        repeat (first | refine awp_seq ?_ | refine awp_region_lit rfl ?_ | refine awp_exit ?_ | refine then_n ?_ | refine then_x ?_ | refine blk_x ?_ | refine rnd_x ?_ | refine awp_cond_f rfl (by first | rfl | assumption | exact dF (by omega)) ?_ | ((first | (show AWL _ _ _ (⟨_, .move _, _, _, _, _⟩ :: _) _ _ _; refine awl_pw ?wtq (pv_move rfl rfl) rfl rfl ?_) | (show AWL _ _ _ (⟨_, .load _ _, _, _, _, _⟩ :: _) _ _ _; refine awl_lw ?wtq (lv_cl1 T0 rfl rfl rfl (by solve | repeat' constructor) (by first | rfl | assumption)) rfl rfl rfl ?_) | (show AWL _ _ _ (⟨_, .indexAddr _ _ _, _, _, _, _⟩ :: _) _ _ _; refine awl_pw ?wtq (pv_ix_arr T0 rfl rfl rfl rfl (by omega) (by simp; rfl)) rfl rfl ?_) | (show AWL _ _ _ (⟨_, .binOp .gtr _ _ _ _, _, _, _, _⟩ :: _) _ _ _; refine awl_pw ?wtq (pv_gtr rfl rfl rfl) rfl rfl ?_) | (show AWL _ _ _ (⟨_, .pick _ _ _, _, _, _, _⟩ :: _) _ _ _; refine awl_pw ?wtq (pv_pick_t rfl rfl (by first | rfl | assumption | exact dT (by omega) | exact dF (by omega)) rfl) rfl rfl ?_)); case wtq => first | exact wt_none rfl | exact wt_some' rfl rfl rfl rfl (by first | rfl | assumption | exact dT (by omega) | exact dF (by omega))) | refine awl_nil ?_)
        exact cut_n ⟨rfl, rfl⟩ (by first | ((repeat' (first | exact True.intro | refine ⟨rfl, ?_⟩)); all_goals fail) | fail) (by solve | repeat' constructor)
      · have d4 := decide_eq_false hz
        repeat (first | refine awp_seq ?_ | refine awp_region_lit rfl ?_ | refine awp_exit ?_ | refine then_n ?_ | refine then_x ?_ | refine blk_x ?_ | refine rnd_x ?_ | refine awp_cond_f rfl (by first | rfl | assumption | exact dF (by omega)) ?_ | ((first | (show AWL _ _ _ (⟨_, .move _, _, _, _, _⟩ :: _) _ _ _; refine awl_pw ?wtq (pv_move rfl rfl) rfl rfl ?_) | (show AWL _ _ _ (⟨_, .load _ _, _, _, _, _⟩ :: _) _ _ _; refine awl_lw ?wtq (lv_cl1 T0 rfl rfl rfl (by solve | repeat' constructor) (by first | rfl | assumption)) rfl rfl rfl ?_) | (show AWL _ _ _ (⟨_, .indexAddr _ _ _, _, _, _, _⟩ :: _) _ _ _; refine awl_pw ?wtq (pv_ix_arr T0 rfl rfl rfl rfl (by omega) (by simp; rfl)) rfl rfl ?_) | (show AWL _ _ _ (⟨_, .binOp .gtr _ _ _ _, _, _, _, _⟩ :: _) _ _ _; refine awl_pw ?wtq (pv_gtr rfl rfl rfl) rfl rfl ?_) | (show AWL _ _ _ (⟨_, .pick _ _ _, _, _, _, _⟩ :: _) _ _ _; refine awl_pw ?wtq (pv_pick_f rfl rfl (by first | rfl | assumption | exact dT (by omega) | exact dF (by omega)) rfl) rfl rfl ?_)); case wtq => first | exact wt_none rfl | exact wt_some' rfl rfl rfl rfl (by first | rfl | assumption | exact dT (by omega) | exact dF (by omega))) | refine awl_sk (wf_some rfl rfl rfl rfl (by first | rfl | assumption | exact dT (by omega) | exact dF (by omega))) rfl rfl ?_ | refine awl_nil ?_)
        exact cut_n ⟨rfl, rfl⟩ (by first | ((repeat' (first | exact True.intro | refine ⟨rfl, ?_⟩)); all_goals fail) | fail) (by solve | repeat' constructor)
  rintro s h ⟨rfl, rfl⟩
  have hrl : (log.map saleRow).length = log.length := List.length_map _
  repeat (first | refine awp_region_lit rfl ?_ | ((first | (show AWL _ _ _ (⟨_, .move _, _, _, _, _⟩ :: _) _ _ _; refine awl_pw ?wtq (pv_move rfl rfl) rfl rfl ?_) | (show AWL _ _ _ (⟨_, .load _ _, _, _, _, _⟩ :: _) _ _ _; refine awl_lw ?wtq (lv_cla T0 rfl rfl rfl (by solve | repeat' constructor) rfl) rfl rfl rfl ?_)); case wtq => first | exact wt_none rfl | exact wt_some' rfl rfl rfl rfl (by first | rfl | assumption | exact dT (by omega) | exact dF (by omega))))
  refine awl_hw (by first | exact wt_none rfl | exact wt_some' rfl rfl rfl rfl (by first | rfl | assumption | exact dT (by omega) | exact dF (by omega))) (st_bsl T0 rfl rfl rfl rfl rfl (by solve | repeat' constructor) rfl rfl rfl rfl (by simp only [List.map_cons, List.map_nil, cellsA]; rfl) ?_)
  intro g168
  skip
  refine awl_hw (by first | exact wt_none rfl | exact wt_some' rfl rfl rfl rfl (by first | rfl | assumption | exact dT (by omega) | exact dF (by omega))) (st_app T0 rfl rfl rfl rfl rfl rfl rfl rfl rfl (by solve | repeat' constructor) (by solve | repeat' constructor) rfl rfl hrl (by omega) (fun _ _ => trivial) ?_)
  intro a169 c169 p169
  repeat (first | refine blk_n ?_ | ((first | (show AWL _ _ _ (⟨_, .assign _, _, _, _, _⟩ :: _) _ _ _; refine awl_pw ?wtq (pv_assign rfl rfl) rfl rfl ?_)); case wtq => first | exact wt_none rfl | exact wt_some' rfl rfl rfl rfl (by first | rfl | assumption | exact dT (by omega) | exact dF (by omega))) | refine awl_nil ?_)
  rw [show log.length + 1 = (log ++ [saleN p (oAt p i) i b mn]).length from by rw [List.length_append]; rfl, show log.map saleRow ++ [saleRow (saleN p (oAt p i) i b mn)] = (log ++ [saleN p (oAt p i) i b mn]).map saleRow from by rw [List.map_append]; rfl]
  refine rnd_n _ _ _ (Nat.lt_succ_self w) ⟨takeN L i b mn, log ++ [saleN p (oAt p i) i b mn], a169, c169, by omega, hL, ?_, ?_, ?_, rfl, rfl⟩ (by first | ((repeat' (first | exact True.intro | refine ⟨rfl, ?_⟩)); all_goals fail) | fail) (by solve | repeat' constructor)
  · rw [(take_at hbi).1]; omega
  · intro q hq
    have := hLb q hq
    show 0 ≤ (if q = b then L b - mn else if q = i then L i - mn else L q) ∧ (if q = b then L b - mn else if q = i then L i - mn else L q) ≤ 20
    split
    · omega
    · split
      · omega
      · exact this
  · rw [List.length_append]; show log.length + 1 + w ≤ 220; omega
end Go.Proofs.Yteaoclpikdmkiaa
