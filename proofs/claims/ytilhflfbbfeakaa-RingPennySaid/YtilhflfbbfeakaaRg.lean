/- DeleteFunc, and sums as an owned list: their walks. -/
import Derived.Test.YtilhflfbbfeakaaRf
import Derived.Test.YtilhflfbbfeakaaTv
namespace Go.Proofs.Ytilhflfbbfeakaa
open Go Go.RowKit Go.Tl
set_option linter.unusedVariables false
set_option linter.unusedSimpArgs false
set_option maxRecDepth 100000
set_option maxHeartbeats 4000000
attribute [local irreducible] AWP AWL AOp PV LV AWT AWE
theorem filter_step {α : Type} {d : α} {l : List α} {p : α → Bool} {j : Nat} (h : j < l.length) : (l.take (j + 1)).filter p = (l.take j).filter p ++ (if p (l.getD j d) then [l.getD j d] else []) := by
  rw [List.take_succ_eq_append_getElem h, List.filter_append]
  have e : l.getD j d = l[j] := by simp [List.getD_eq_getElem?_getD, h]
  rw [e]
  cases hp : p l[j] <;> simp [hp]
theorem set_take {α : Type} {L : List α} {i : Nat} {x : α} (h : i < L.length) : (L.set i x).take (i + 1) = L.take i ++ [x] := by
  refine List.ext_getElem (by simp; omega) fun k h1 h2 => ?_
  simp only [List.getElem_take, List.getElem_set, List.getElem_append, List.length_take]
  simp at h1
  by_cases e : i = k
  · subst e; simp [Nat.min_eq_left (Nat.le_of_lt h)]
  · rw [if_neg e, dif_pos (by omega)]
theorem drop_at {α : Type} {d : α} {L l : List α} {j q : Nat} (h : L.drop j = l.drop j) (hq : j ≤ q) : L.getD q d = l.getD q d := by
  have := congrArg (fun x => x[q - j]?) h
  simp only [List.getElem?_drop] at this
  rw [show j + (q - j) = q by omega] at this
  rw [List.getD_eq_getElem?_getD, List.getD_eq_getElem?_getD, this]
theorem del_o {fv : AV} {g ga n cap : Nat} {fs cs : List AV} {e : Ent} {q : ConD → Bool} (l : List ConD) (hl : l.length ≤ 1000) (hn : n = l.length) (hcal : Tl.Callee fv g fs cs) (hg : T0.fns.any g.beq = true)
    (hq : ∀ c, c ∈ l → ACall Try.prog g (fs ++ [conA c] ++ cs) [e] (fun r h' => r = boolA (q c) ∧ h' = [e])) :
    ACall Try.prog 61 [.v (.slice (some ⟨ga, 0, none⟩) n cap), fv] [.rw (.slice (some ⟨ga, 0, none⟩) n cap) 83 4 (l.map conRow), e]
      (fun r h' => r = .v (.slice (some ⟨ga, 0, none⟩) (l.filter fun c => !q c).length cap) ∧ h' = [.rw (.slice (some ⟨ga, 0, none⟩) (l.filter fun c => !q c).length cap) 83 4 ((l.filter fun c => !q c).map conRow), e]) := by
  subst hn
  refine acall_of_awp T0 Try.func61 rfl rfl rfl ?_
  repeat (first | refine awp_seq ?_ | refine awp_region_lit rfl ?_ | (show AWL _ _ _ (⟨_, .move _, _, _, _, _⟩ :: _) _ _ _; refine awl_pw (wt_none rfl) (pv_move rfl rfl) rfl rfl ?_) | (show AWL _ _ _ (⟨_, .assign _, _, _, _, _⟩ :: _) _ _ _; refine awl_pw (wt_none rfl) (pv_assign rfl rfl) rfl rfl ?_) | refine awl_nil ?_)
  refine awl_hw (wt_none rfl) (st_acall T0 (cidx_o l hl rfl hcal hg hq) rfl rfl rfl rfl (by first | exact callee_lit | exact callee_v | exact callee_fn | assumption) (by solve | repeat' constructor) (by first | rfl | assumption) rfl (by first | ((repeat' (first | exact SubH.refl _ | apply SubH.cons | exact Pick.here | apply Pick.there)); all_goals fail) | fail) (fun _ _ => trivial) ?_)
  rintro r h ⟨⟨z, rfl, hz⟩, rfl⟩
  simp only [List.cons_append, List.nil_append]
  rcases hz with ⟨rfl, hz⟩ | ⟨k, hk, rfl, hk1, hk2⟩
  · have hfl : (l.filter fun c => !q c) = l := List.filter_eq_self.2 fun c hc => by
      obtain ⟨j, hj, rfl⟩ := mem_getD (d := default) hc
      have hz' := hz j hj
      simp only at hz'
      rw [hz']; rfl
    have d1 : decide ((-1 : Int) = -1) = true := rfl
    rw [hfl]
    repeat (first | refine awp_seq ?_ | refine awp_region_lit rfl ?_ | refine awp_ret ?_ | refine then_n ?_ | refine then_r ?_ | refine awp_cond_t rfl (by first | rfl | assumption | exact dT (by omega)) ?_ | (show AWL _ _ _ (⟨_, .move _, _, _, _, _⟩ :: _) _ _ _; refine awl_pw (wt_none rfl) (pv_move rfl rfl) rfl rfl ?_) | (show AWL _ _ _ (⟨_, .assign _, _, _, _, _⟩ :: _) _ _ _; refine awl_pw (wt_none rfl) (pv_assign rfl rfl) rfl rfl ?_) | (show AWL _ _ _ (⟨_, .binOp .eql _ _ _ _, _, _, _, _⟩ :: _) _ _ _; refine awl_pw (wt_none rfl) (pv_eql rfl rfl rfl) rfl rfl ?_) | refine awl_nil ?_)
    exact body_r (h' := [.rw (.slice (some ⟨ga, 0, none⟩) l.length cap) 83 4 (l.map conRow), e]) (.cons rfl .nil) (by solve | repeat' constructor) ⟨rfl, rfl⟩
  have d1 : decide ((k : Int) = -1) = false := decide_eq_false (by omega)
  have hpre : (l.take (k + 1)).filter (fun c => !q c) = l.take k := by
    rw [filter_step (d := default) hk]
    simp only at hk1
    rw [hk1]
    have : (l.take k).filter (fun c => !q c) = l.take k := List.filter_eq_self.2 fun c hc => by
      obtain ⟨j, hj, rfl⟩ := mem_getD (d := default) hc
      rw [List.length_take] at hj
      have e1 : (l.take k).getD j default = l.getD j default := by simp [List.getD_eq_getElem?_getD, List.getElem?_take, show j < k by omega]
      have := hk2 j (by omega)
      simp only at this
      rw [e1, this]; rfl
    rw [this]; simp
  repeat (first | refine awp_seq ?_ | refine awp_block ?_ | refine awp_region_lit rfl ?_ | refine awp_skip ?_ | refine then_n ?_ | refine awp_cond_f rfl (by first | rfl | assumption | exact dF (by omega)) ?_ | (show AWL _ _ _ (⟨_, .move _, _, _, _, _⟩ :: _) _ _ _; refine awl_pw (wt_none rfl) (pv_move rfl rfl) rfl rfl ?_) | (show AWL _ _ _ (⟨_, .assign _, _, _, _, _⟩ :: _) _ _ _; refine awl_pw (wt_none rfl) (pv_assign rfl rfl) rfl rfl ?_) | (show AWL _ _ _ (⟨_, .binOp .add _ _ _ _, _, _, _, _⟩ :: _) _ _ _; refine awl_pw (wt_none rfl) (pv_add rfl rfl rfl (by first | assumption | exact wr64 (by omega))) rfl rfl ?_) | (show AWL _ _ _ (⟨_, .binOp .eql _ _ _ _, _, _, _, _⟩ :: _) _ _ _; refine awl_pw (wt_none rfl) (pv_eql rfl rfl rfl) rfl rfl ?_) | refine awl_nil ?_)
  refine awp_loop (fun m s h => ∃ (j i : Nat) (L : List ConD), j ≤ l.length ∧ m = l.length - j ∧ i < j ∧ L.length = l.length ∧ L.take i = (l.take j).filter (fun c => !q c) ∧ L.drop j = l.drop j ∧
    s = [(0, .v (.slice (some ⟨ga, 0, none⟩) l.length cap)), (1, fv), (5, intA i), (6, intA j)] ∧ h = [.rw (.slice (some ⟨ga, 0, none⟩) l.length cap) 83 4 (L.map conRow), e]) ?_ ⟨k + 1, k, l, hk, rfl, by omega, rfl, hpre.symm, rfl, rfl, rfl⟩ (by first | ((repeat' (first | exact True.intro | refine ⟨rfl, ?_⟩)); all_goals fail) | fail) (by solve | repeat' constructor)
  rintro m s h ⟨j, i, L, hj, rfl, hij, hLl, hLt, hLd, rfl, rfl⟩
  by_cases hjt : j < l.length
  case neg =>
    obtain rfl : j = l.length := by omega
    rw [List.take_length] at hLt
    have hfl : (l.filter fun c => !q c).length = i := by rw [← hLt]; simp; omega
    have hrows : (L.map conRow).take i = (l.filter fun c => !q c).map conRow := by rw [← hLt, List.map_take]
    refine awp_cap (g := ga) (n := l.length) (c := cap) (E := 83) (sz := 4) (rows := L.map conRow) (by solve | repeat' constructor) ?_
    intro _ hcap
    repeat (first | refine awp_seq ?_ | refine awp_region_lit rfl ?_ | refine awp_exit ?_ | refine then_n ?_ | refine awp_cond_f rfl (by first | rfl | assumption | exact dF (by omega)) ?_ | (show AWL _ _ _ (⟨_, .move _, _, _, _, _⟩ :: _) _ _ _; refine awl_pw (wt_none rfl) (pv_move rfl rfl) rfl rfl ?_) | (show AWL _ _ _ (⟨_, .slice _ _ _ _ _, _, _, _, _⟩ :: _) _ _ _; refine awl_pw (wt_none rfl) (pv_slice_lo_own T0 rfl rfl rfl rfl rfl (by omega) (by omega)) rfl rfl ?_) | (show AWL _ _ _ (⟨_, .binOp .lss _ _ _ _, _, _, _, _⟩ :: _) _ _ _; refine awl_pw (wt_none rfl) (pv_lss rfl rfl rfl) rfl rfl ?_) | (show AWL _ _ _ (⟨_, .call ⟨.builtin .len, _, _⟩, _, _, _, _⟩ :: _) _ _ _; refine awl_pw (wt_none rfl) (pv_len_v T0 rfl rfl rfl) rfl rfl ?_) | refine awl_nil ?_)
    refine awl_hw (wt_none rfl) (aop_clear_own T0 (k := i) (m := l.length - i) (rows := L.map conRow) rfl rfl rfl rfl rfl rfl rfl (by solve | repeat' constructor) (by simp; omega) (by omega) trivial ?_)
    rw [hrows]
    repeat (first | refine awp_seq ?_ | refine awp_region_lit rfl ?_ | refine awp_ret ?_ | (show AWL _ _ _ (⟨_, .move _, _, _, _, _⟩ :: _) _ _ _; refine awl_pw (wt_none rfl) (pv_move rfl rfl) rfl rfl ?_) | (show AWL _ _ _ (⟨_, .assign _, _, _, _, _⟩ :: _) _ _ _; refine awl_pw (wt_none rfl) (pv_assign rfl rfl) rfl rfl ?_) | (show AWL _ _ _ (⟨_, .slice _ _ _ _ _, _, _, _, _⟩ :: _) _ _ _; refine awl_pw (wt_none rfl) (pv_slice_hi_own T0 rfl rfl rfl rfl rfl (by omega) (by omega)) rfl rfl ?_) | refine awl_nil ?_)
    refine body_r (h' := [.rw (.slice (some ⟨ga, 0, none⟩) i cap) 83 4 ((l.filter fun c => !q c).map conRow), e]) (.cons rfl .nil) (by solve | repeat' constructor) ⟨?_, ?_⟩
    · rw [hfl]; rfl
    · rw [hfl]
  have hlj : L.getD j default = l.getD j default := drop_at hLd (Nat.le_refl _)
  have hqj := hq _ (getD_mem (d := default) hjt)
  have r1 := conRow_at (l := L) (k := j) (by omega)
  rw [hlj] at r1
  have hstep := filter_step (d := default) (p := fun c => !q c) hjt
  have hdrop : ∀ L' : List ConD, L'.drop j = l.drop j → L'.drop (j + 1) = l.drop (j + 1) := fun L' h => by
    have := congrArg (List.drop 1) h
    simpa [List.drop_drop] using this
  cases hqc : q (l.getD j default)
  · rw [hqc] at hqj
    rw [hqc] at hstep
    have r2 := conRow_at (l := L) (k := i) (by omega)
    repeat (first | refine awp_seq ?_ | refine awp_block ?_ | refine awp_region_lit rfl ?_ | refine awp_skip ?_ | refine then_n ?_ | refine awp_cond_t rfl (by first | rfl | assumption | exact dT (by omega)) ?_ | (show AWL _ _ _ (⟨_, .move _, _, _, _, _⟩ :: _) _ _ _; refine awl_pw (wt_none rfl) (pv_move rfl rfl) rfl rfl ?_) | (show AWL _ _ _ (⟨_, .load _ _, _, _, _, _⟩ :: _) _ _ _; refine awl_lw (wt_none rfl) (lv_rpa T0 rfl rfl rfl (by solve | repeat' constructor) (by first | omega | (simp; omega)) (by first | assumption | rfl)) rfl rfl rfl ?_) | (show AWL _ _ _ (⟨_, .indexAddr _ _ _, _, _, _, _⟩ :: _) _ _ _; refine awl_pw (wt_none rfl) (pv_ix_own T0 rfl rfl rfl rfl (by omega) (by first | exact Int.toNat_natCast _ | rfl)) rfl rfl ?_) | (show AWL _ _ _ (⟨_, .binOp .lss _ _ _ _, _, _, _, _⟩ :: _) _ _ _; refine awl_pw (wt_none rfl) (pv_lss rfl rfl rfl) rfl rfl ?_) | (show AWL _ _ _ (⟨_, .call ⟨.builtin .len, _, _⟩, _, _, _, _⟩ :: _) _ _ _; refine awl_pw (wt_none rfl) (pv_len_v T0 rfl rfl rfl) rfl rfl ?_) | refine awl_nil ?_)
    refine awl_hw (wt_none rfl) (st_alloc T0 rfl rfl rfl rfl (by simp only [Value.cells, List.toList_toArray, List.map_cons, List.map_nil]; rfl) ?_)
    intro g7
    repeat (first | refine awp_seq ?_ | refine awp_region_lit rfl ?_ | (show AWL _ _ _ (⟨_, .move _, _, _, _, _⟩ :: _) _ _ _; refine awl_pw (wt_none rfl) (pv_move rfl rfl) rfl rfl ?_) | (show AWL _ _ _ (⟨_, .load _ _, _, _, _, _⟩ :: _) _ _ _; refine awl_lw (wt_none rfl) (lv_cla T0 rfl rfl rfl (by solve | repeat' constructor) rfl) rfl rfl rfl ?_) | (show AWL _ _ _ (⟨_, .store _ _ _, _, _, _, _⟩ :: _) _ _ _; refine awl_hw (wt_none rfl) (st_store T0 rfl rfl rfl rfl rfl (by first | assumption | (simp only [cellsA]; rfl)) rfl rfl rfl (by solve | repeat' constructor) (by solve | repeat' constructor) trivial ?_)) | refine awl_nil ?_)
    refine awl_hw (wt_none rfl) (st_acall T0 (hqj) rfl rfl rfl rfl (by first | exact callee_lit | exact callee_v | exact callee_fn | assumption) (by solve | repeat' constructor) (by first | rfl | assumption) rfl (by first | ((repeat' (first | exact SubH.refl _ | apply SubH.cons | exact Pick.here | apply Pick.there)); all_goals fail) | fail) (fun _ _ => trivial) ?_)
    rintro r h ⟨rfl, rfl⟩
    simp only [List.cons_append, List.nil_append]
    repeat (first | refine awp_seq ?_ | refine awp_region_lit rfl ?_ | refine then_n ?_ | refine awp_cond_t rfl (by first | rfl | assumption | exact dT (by omega)) ?_ | (show AWL _ _ _ (⟨_, .move _, _, _, _, _⟩ :: _) _ _ _; refine awl_pw (wt_none rfl) (pv_move rfl rfl) rfl rfl ?_) | (show AWL _ _ _ (⟨_, .load _ _, _, _, _, _⟩ :: _) _ _ _; refine awl_lw (wt_none rfl) (lv_cla T0 rfl rfl rfl (by solve | repeat' constructor) rfl) rfl rfl rfl ?_) | (show AWL _ _ _ (⟨_, .indexAddr _ _ _, _, _, _, _⟩ :: _) _ _ _; refine awl_pw (wt_none rfl) (pv_ix_own T0 rfl rfl rfl rfl (by omega) (by first | exact Int.toNat_natCast _ | rfl)) rfl rfl ?_) | (show AWL _ _ _ (⟨_, .unOp .not _ _, _, _, _, _⟩ :: _) _ _ _; refine awl_pw (wt_none rfl) (pv_not rfl rfl) rfl rfl ?_) | refine awl_nil ?_)
    refine awl_hw (wt_none rfl) (aop_store_rp T0 rfl rfl rfl rfl rfl rfl rfl rfl (by solve | repeat' constructor) (by first | omega | (simp; omega)) (by omega) rfl trivial ?_)
    simp only [cellsA]
    rw [conRow_set L i (l.getD j default) (by omega)]
    repeat (first | refine awp_region_lit rfl ?_ | (show AWL _ _ _ (⟨_, .move _, _, _, _, _⟩ :: _) _ _ _; refine awl_pw (wt_none rfl) (pv_move rfl rfl) rfl rfl ?_) | (show AWL _ _ _ (⟨_, .assign _, _, _, _, _⟩ :: _) _ _ _; refine awl_pw (wt_none rfl) (pv_assign rfl rfl) rfl rfl ?_) | (show AWL _ _ _ (⟨_, .binOp .add _ _ _ _, _, _, _, _⟩ :: _) _ _ _; refine awl_pw (wt_none rfl) (pv_add rfl rfl rfl (by first | assumption | exact wr64 (by omega))) rfl rfl ?_) | refine awl_nil ?_)
    refine rnd_n _ _ _ ?_ ⟨j + 1, i + 1, L.set i (l.getD j default), hjt, rfl, by omega, by simpa using hLl, ?_, ?_, rfl, rfl⟩ (by first | ((repeat' (first | exact True.intro | refine ⟨rfl, ?_⟩)); all_goals fail) | fail) (by solve | repeat' constructor)
    · omega
    · rw [hstep, ← hLt, set_take (by omega)]; rfl
    · rw [List.drop_set_of_lt (by omega)]; exact hdrop L hLd
  · rw [hqc] at hqj
    rw [hqc] at hstep
    repeat (first | refine awp_seq ?_ | refine awp_block ?_ | refine awp_region_lit rfl ?_ | refine awp_skip ?_ | refine then_n ?_ | refine awp_cond_t rfl (by first | rfl | assumption | exact dT (by omega)) ?_ | (show AWL _ _ _ (⟨_, .move _, _, _, _, _⟩ :: _) _ _ _; refine awl_pw (wt_none rfl) (pv_move rfl rfl) rfl rfl ?_) | (show AWL _ _ _ (⟨_, .load _ _, _, _, _, _⟩ :: _) _ _ _; refine awl_lw (wt_none rfl) (lv_rpa T0 rfl rfl rfl (by solve | repeat' constructor) (by first | omega | (simp; omega)) (by first | assumption | rfl)) rfl rfl rfl ?_) | (show AWL _ _ _ (⟨_, .indexAddr _ _ _, _, _, _, _⟩ :: _) _ _ _; refine awl_pw (wt_none rfl) (pv_ix_own T0 rfl rfl rfl rfl (by omega) (by first | exact Int.toNat_natCast _ | rfl)) rfl rfl ?_) | (show AWL _ _ _ (⟨_, .binOp .lss _ _ _ _, _, _, _, _⟩ :: _) _ _ _; refine awl_pw (wt_none rfl) (pv_lss rfl rfl rfl) rfl rfl ?_) | (show AWL _ _ _ (⟨_, .call ⟨.builtin .len, _, _⟩, _, _, _, _⟩ :: _) _ _ _; refine awl_pw (wt_none rfl) (pv_len_v T0 rfl rfl rfl) rfl rfl ?_) | refine awl_nil ?_)
    refine awl_hw (wt_none rfl) (st_alloc T0 rfl rfl rfl rfl (by simp only [Value.cells, List.toList_toArray, List.map_cons, List.map_nil]; rfl) ?_)
    intro g7
    repeat (first | refine awp_seq ?_ | refine awp_region_lit rfl ?_ | (show AWL _ _ _ (⟨_, .move _, _, _, _, _⟩ :: _) _ _ _; refine awl_pw (wt_none rfl) (pv_move rfl rfl) rfl rfl ?_) | (show AWL _ _ _ (⟨_, .load _ _, _, _, _, _⟩ :: _) _ _ _; refine awl_lw (wt_none rfl) (lv_cla T0 rfl rfl rfl (by solve | repeat' constructor) rfl) rfl rfl rfl ?_) | (show AWL _ _ _ (⟨_, .store _ _ _, _, _, _, _⟩ :: _) _ _ _; refine awl_hw (wt_none rfl) (st_store T0 rfl rfl rfl rfl rfl (by first | assumption | (simp only [cellsA]; rfl)) rfl rfl rfl (by solve | repeat' constructor) (by solve | repeat' constructor) trivial ?_)) | refine awl_nil ?_)
    refine awl_hw (wt_none rfl) (st_acall T0 (hqj) rfl rfl rfl rfl (by first | exact callee_lit | exact callee_v | exact callee_fn | assumption) (by solve | repeat' constructor) (by first | rfl | assumption) rfl (by first | ((repeat' (first | exact SubH.refl _ | apply SubH.cons | exact Pick.here | apply Pick.there)); all_goals fail) | fail) (fun _ _ => trivial) ?_)
    rintro r h ⟨rfl, rfl⟩
    simp only [List.cons_append, List.nil_append]
    repeat (first | refine awp_region_lit rfl ?_ | refine awp_skip ?_ | refine then_n ?_ | refine awp_cond_f rfl (by first | rfl | assumption | exact dF (by omega)) ?_ | (show AWL _ _ _ (⟨_, .move _, _, _, _, _⟩ :: _) _ _ _; refine awl_pw (wt_none rfl) (pv_move rfl rfl) rfl rfl ?_) | (show AWL _ _ _ (⟨_, .assign _, _, _, _, _⟩ :: _) _ _ _; refine awl_pw (wt_none rfl) (pv_assign rfl rfl) rfl rfl ?_) | (show AWL _ _ _ (⟨_, .binOp .add _ _ _ _, _, _, _, _⟩ :: _) _ _ _; refine awl_pw (wt_none rfl) (pv_add rfl rfl rfl (by first | assumption | exact wr64 (by omega))) rfl rfl ?_) | (show AWL _ _ _ (⟨_, .unOp .not _ _, _, _, _, _⟩ :: _) _ _ _; refine awl_pw (wt_none rfl) (pv_not rfl rfl) rfl rfl ?_) | refine awl_nil ?_)
    refine rnd_n _ _ _ ?_ ⟨j + 1, i, L, hjt, rfl, by omega, hLl, ?_, hdrop L hLd, rfl, rfl⟩ (by first | ((repeat' (first | exact True.intro | refine ⟨rfl, ?_⟩)); all_goals fail) | fail) (by solve | repeat' constructor)
    · omega
    · rw [hstep, ← hLt]; simp
end Go.Proofs.Ytilhflfbbfeakaa
