/- Lists of contracts that are owned: Clone, IndexFunc, DeleteFunc; the greatest of some numbers: their walks. -/
import Derived.Test.YtilhflfbbfeakaaRe
import Derived.Test.YtilhflfbbfeakaaDl
import Derived.Test.YtilhflfbbfeakaaTv
namespace Go.Proofs.Ytilhflfbbfeakaa
open Go Go.RowKit Go.Tl
set_option linter.unusedVariables false
set_option linter.unusedSimpArgs false
set_option maxRecDepth 100000
set_option maxHeartbeats 4000000
attribute [local irreducible] AWP AWL AOp PV LV AWT AWE
theorem conOne (cs : List ConD) : ∀ k, k < cs.length → ∀ u ∈ conL (cs.getD k default), oneA (AV.ofTr u) = true := fun k hk u hu => by
  simp only [conL, List.mem_cons, List.not_mem_nil, or_false] at hu
  rcases hu with rfl | rfl | rfl | rfl <;> rfl
theorem conRows_range (l : List ConD) : ((List.range l.length).map fun k => (conL (l.getD k default)).map AV.ofTr) = l.map conRow := by
  refine List.ext_getElem (by simp) fun k h1 h2 => ?_
  simp at h1 h2
  simp [List.getD_eq_getElem?_getD, h1, conL, conRow, AV.ofTr]
theorem conRow_at {l : List ConD} {k : Nat} (h : k < l.length) : (l.map conRow).getD k [] = [intA (l.getD k default).frm, intA (l.getD k default).to, intA (l.getD k default).num, intA (l.getD k default).price] := by
  simp [List.getD_eq_getElem?_getD, h, conRow]
theorem conRow_set (l : List ConD) (k : Nat) (c : ConD) (h : k < l.length) : (l.map conRow).set k (spA ((l.map conRow).getD k []) 0 [intA c.frm, intA c.to, intA c.num, intA c.price]) = (l.set k c).map conRow := by
  have e : spA ((l.map conRow).getD k []) 0 [intA c.frm, intA c.to, intA c.num, intA c.price] = conRow c := by rw [conRow_at h]; simp [spA, conRow]
  rw [e, List.map_set]
theorem clone_o (cp : Bool) (l : List ConD) (hl : l.length ≤ 1000) : ACall Try.prog 62 [.t (consT cp l)] [] (fun r h' => ∃ (a : Option Addr) (c : Nat), r = .v (.slice a l.length c) ∧ (0 < l.length → ∃ ga, a = some ⟨ga, 0, none⟩) ∧ h' = [.rw (.slice a l.length c) 83 4 (l.map conRow)]) := by
  refine acall_of_awp T0 Try.func62 rfl rfl rfl ?_
  repeat (first | refine awp_seq ?_ | refine awp_region_lit rfl ?_ | (show AWL _ _ _ (⟨_, .move _, _, _, _, _⟩ :: _) _ _ _; refine awl_pw (wt_none rfl) (pv_move rfl rfl) rfl rfl ?_) | (show AWL _ _ _ (⟨_, .assign _, _, _, _, _⟩ :: _) _ _ _; refine awl_pw (wt_none rfl) (pv_assign rfl rfl) rfl rfl ?_) | refine awl_nil ?_)
  refine awl_hw (wt_none rfl) (aop_isnil T0 rfl rfl rfl rfl rfl ?_)
  intro b hb
  repeat (first | refine then_n ?_ | refine awl_nil ?_)
  cases b
  · repeat (first | refine awp_seq ?_ | refine awp_region_lit rfl ?_ | refine awp_skip ?_ | refine awp_cond_f rfl (by first | rfl | assumption | exact dF (by omega)) ?_)
    refine awl_hw (wt_none rfl) (st_bsl T0 rfl rfl rfl rfl rfl (by solve | repeat' constructor) rfl rfl rfl rfl (by simp only [List.map_cons, List.map_nil, cellsA]; rfl) ?_)
    intro g
    repeat (first | (show AWL _ _ _ (⟨_, .move _, _, _, _, _⟩ :: _) _ _ _; refine awl_pw (wt_none rfl) (pv_move rfl rfl) rfl rfl ?_))
    refine awl_hw (wt_none rfl) (st_appt T0 rfl rfl rfl rfl rfl rfl rfl rfl rfl (by solve | repeat' constructor) (by first | exact conOne _ | (intro k hk u hu; simp at hu; subst hu; rfl)) (by (try simp only [List.length_nil, List.length_map, List.length_append, List.length_cons]); rfl) (by first | omega | (simp; omega)) (fun _ _ => trivial) rfl ?_)
    intro a c p
    repeat (first | refine awp_ret ?_ | (show AWL _ _ _ (⟨_, .assign _, _, _, _, _⟩ :: _) _ _ _; refine awl_pw (wt_none rfl) (pv_assign rfl rfl) rfl rfl ?_) | refine awl_nil ?_)
    refine body_r (.cons rfl .nil) (SubH.refl _) ⟨a, c, by simp only [Nat.zero_add]; rfl, fun h => p (by omega), ?_⟩
    simp only [List.nil_append, Nat.zero_add]
    rw [conRows_range]
  · have h0 : l.length = 0 := by rcases Nat.eq_zero_or_pos l.length with h | h; exact h; have := hb h; cases this
    obtain rfl := List.length_eq_zero_iff.1 h0
    repeat (first | refine awp_seq ?_ | refine awp_region_lit rfl ?_ | refine awp_ret ?_ | refine then_r ?_ | refine awp_cond_t rfl (by first | rfl | assumption | exact dT (by omega)) ?_ | (show AWL _ _ _ (⟨_, .assign _, _, _, _, _⟩ :: _) _ _ _; refine awl_pw (wt_none rfl) (pv_assign rfl rfl) rfl rfl ?_) | refine awl_nil ?_)
    refine bodyQ_ghost (ghost_nilrow 83 4) ?_
    exact body_r (.cons rfl .nil) (SubH.refl _) ⟨none, 0, rfl, fun h => absurd h (Nat.lt_irrefl _), rfl⟩
/-- the greatest of the first numbers -/
def mxN (xs : List Int) : Nat → Int
  | 0 => xs.getD 0 0
  | k + 1 => max (mxN xs k) (xs.getD (k + 1) 0)
theorem smax_p (cp : Bool) (xs : List Int) (hl : xs.length ≤ 1000) (h1 : 1 ≤ xs.length) : PCall Try.prog 93 [.t (intsT cp xs)] (fun r => r = intA (mxN xs (xs.length - 1))) := by
  refine acall_of_awp T0 Try.func93 rfl rfl rfl ?_
  have d1 : decide ((xs.length : Int) < 1) = false := decide_eq_false (by omega)
  repeat (first | refine awp_seq ?_ | refine awp_block ?_ | refine awp_region_lit rfl ?_ | refine awp_skip ?_ | refine then_n ?_ | refine awp_cond_f rfl (by first | rfl | assumption | exact dF (by omega)) ?_ | (show AWL _ _ _ (⟨_, .move _, _, _, _, _⟩ :: _) _ _ _; refine awl_pw (wt_none rfl) (pv_move rfl rfl) rfl rfl ?_) | (show AWL _ _ _ (⟨_, .assign _, _, _, _, _⟩ :: _) _ _ _; refine awl_pw (wt_none rfl) (pv_assign rfl rfl) rfl rfl ?_) | (show AWL _ _ _ (⟨_, .load _ _, _, _, _, _⟩ :: _) _ _ _; refine awl_lw (wt_none rfl) (lv_elt_sc T0 rfl rfl rfl rfl) rfl rfl rfl ?_) | (show AWL _ _ _ (⟨_, .indexAddr _ _ _, _, _, _, _⟩ :: _) _ _ _; refine awl_pw (wt_none rfl) (pv_ix_t T0 rfl rfl rfl rfl (by omega) (by first | exact Int.toNat_natCast _ | rfl)) rfl rfl ?_) | (show AWL _ _ _ (⟨_, .binOp .lss _ _ _ _, _, _, _, _⟩ :: _) _ _ _; refine awl_pw (wt_none rfl) (pv_lss rfl rfl rfl) rfl rfl ?_) | (show AWL _ _ _ (⟨_, .call ⟨.builtin .len, _, _⟩, _, _, _, _⟩ :: _) _ _ _; refine awl_pw (wt_none rfl) (pv_len_t T0 rfl rfl rfl) rfl rfl ?_) | refine awl_nil ?_)
  refine awp_loop (fun m s h => ∃ (k : Nat), k + 1 ≤ xs.length ∧ m = xs.length - k ∧ s = [(0, .t (intsT cp xs)), (3, intA (mxN xs k)), (4, intA (k + 1 : Nat))] ∧ h = []) ?_ ⟨0, h1, rfl, rfl, rfl⟩ (by first | ((repeat' (first | exact True.intro | refine ⟨rfl, ?_⟩)); all_goals fail) | fail) (by solve | repeat' constructor)
  rintro m s h ⟨k, hk, rfl, rfl, rfl⟩
  by_cases hlt : k + 1 < xs.length
  · repeat (first | refine awp_seq ?_ | refine awp_block ?_ | refine awp_region_lit rfl ?_ | refine awp_skip ?_ | refine then_n ?_ | refine awp_cond_t rfl (by first | rfl | assumption | exact dT (by omega)) ?_ | (show AWL _ _ _ (⟨_, .move _, _, _, _, _⟩ :: _) _ _ _; refine awl_pw (wt_none rfl) (pv_move rfl rfl) rfl rfl ?_) | (show AWL _ _ _ (⟨_, .assign _, _, _, _, _⟩ :: _) _ _ _; refine awl_pw (wt_none rfl) (pv_assign rfl rfl) rfl rfl ?_) | (show AWL _ _ _ (⟨_, .load _ _, _, _, _, _⟩ :: _) _ _ _; refine awl_lw (wt_none rfl) (lv_elt_sc T0 rfl rfl rfl rfl) rfl rfl rfl ?_) | (show AWL _ _ _ (⟨_, .indexAddr _ _ _, _, _, _, _⟩ :: _) _ _ _; refine awl_pw (wt_none rfl) (pv_ix_t T0 rfl rfl rfl rfl (by omega) (by first | exact Int.toNat_natCast _ | rfl)) rfl rfl ?_) | (show AWL _ _ _ (⟨_, .binOp .add _ _ _ _, _, _, _, _⟩ :: _) _ _ _; refine awl_pw (wt_none rfl) (pv_add rfl rfl rfl (by first | assumption | exact wr64 (by omega))) rfl rfl ?_) | (show AWL _ _ _ (⟨_, .binOp .lss _ _ _ _, _, _, _, _⟩ :: _) _ _ _; refine awl_pw (wt_none rfl) (pv_lss rfl rfl rfl) rfl rfl ?_) | (show AWL _ _ _ (⟨_, .call ⟨.builtin .len, _, _⟩, _, _, _, _⟩ :: _) _ _ _; refine awl_pw (wt_none rfl) (pv_len_t T0 rfl rfl rfl) rfl rfl ?_) | (show AWL _ _ _ (⟨_, .call ⟨.builtin .max, _, _⟩, _, _, _, _⟩ :: _) _ _ _; refine awl_pw (wt_none rfl) (pv_max2 rfl rfl rfl) rfl rfl ?_) | refine awl_nil ?_)
    refine rnd_n _ _ _ ?_ ⟨k + 1, hlt, rfl, rfl, rfl⟩ (by first | ((repeat' (first | exact True.intro | refine ⟨rfl, ?_⟩)); all_goals fail) | fail) (by solve | repeat' constructor)
    omega
  · obtain rfl : k = xs.length - 1 := by omega
    repeat (first | refine awp_seq ?_ | refine awp_region_lit rfl ?_ | refine awp_exit ?_ | refine awp_ret ?_ | refine then_n ?_ | refine awp_cond_f rfl (by first | rfl | assumption | exact dF (by omega)) ?_ | (show AWL _ _ _ (⟨_, .move _, _, _, _, _⟩ :: _) _ _ _; refine awl_pw (wt_none rfl) (pv_move rfl rfl) rfl rfl ?_) | (show AWL _ _ _ (⟨_, .assign _, _, _, _, _⟩ :: _) _ _ _; refine awl_pw (wt_none rfl) (pv_assign rfl rfl) rfl rfl ?_) | (show AWL _ _ _ (⟨_, .binOp .lss _ _ _ _, _, _, _, _⟩ :: _) _ _ _; refine awl_pw (wt_none rfl) (pv_lss rfl rfl rfl) rfl rfl ?_) | (show AWL _ _ _ (⟨_, .call ⟨.builtin .len, _, _⟩, _, _, _, _⟩ :: _) _ _ _; refine awl_pw (wt_none rfl) (pv_len_t T0 rfl rfl rfl) rfl rfl ?_) | refine awl_nil ?_)
    exact body_p (.cons rfl .nil) rfl
theorem great_p (cp : Bool) (x y : Int) : PCall Try.prog 65 [.t (intsT cp [x, y])] (fun r => r = intA (max x y)) := by
  refine acall_of_awp T0 Try.func65 rfl rfl rfl ?_
  repeat (first | refine awp_seq ?_ | refine awp_region_lit rfl ?_ | (show AWL _ _ _ (⟨_, .move _, _, _, _, _⟩ :: _) _ _ _; refine awl_pw (wt_none rfl) (pv_move rfl rfl) rfl rfl ?_) | (show AWL _ _ _ (⟨_, .assign _, _, _, _, _⟩ :: _) _ _ _; refine awl_pw (wt_none rfl) (pv_assign rfl rfl) rfl rfl ?_) | refine awl_nil ?_)
  refine awl_hw (wt_none rfl) (st_call T0 (smax_p cp [x, y] (by simp) (by simp)) rfl rfl rfl rfl (by first | exact callee_lit | exact callee_v | exact callee_fn | assumption) (by solve | repeat' constructor) (by first | rfl | assumption) rfl ?_)
  rintro _ rfl
  repeat (first | refine awp_ret ?_ | (show AWL _ _ _ (⟨_, .assign _, _, _, _, _⟩ :: _) _ _ _; refine awl_pw (wt_none rfl) (pv_assign rfl rfl) rfl rfl ?_) | refine awl_nil ?_)
  exact body_p (.cons rfl .nil) rfl
theorem great_o (g : Nat) (x y : Int) : ACall Try.prog 65 [.v (.slice (some ⟨g, 0, none⟩) 2 2)] [.rw (.slice (some ⟨g, 0, none⟩) 2 2) 3 1 [[intA x], [intA y]]] (fun r h' => r = intA (max x y) ∧ h' = []) :=
  acall_own (great_p true x y) rfl (intRows_tree [x, y])
theorem cidx_o {fv : AV} {g ga n cap : Nat} {fs cs : List AV} {e : Ent} {q : ConD → Bool} (l : List ConD) (hl : l.length ≤ 1000) (hn : n = l.length) (hcal : Tl.Callee fv g fs cs) (hg : T0.fns.any g.beq = true)
    (hq : ∀ c, c ∈ l → ACall Try.prog g (fs ++ [conA c] ++ cs) [e] (fun r h' => r = boolA (q c) ∧ h' = [e])) :
    ACall Try.prog 92 [.v (.slice (some ⟨ga, 0, none⟩) n cap), fv] [.rw (.slice (some ⟨ga, 0, none⟩) n cap) 83 4 (l.map conRow), e] (fun r h' => (∃ z, r = intA z ∧ IdxOf (fun k => q (l.getD k default)) l.length z) ∧ h' = [.rw (.slice (some ⟨ga, 0, none⟩) n cap) 83 4 (l.map conRow), e]) := by
  subst hn
  refine acall_of_awp T0 Try.func92 rfl rfl rfl ?_
  have hml : (l.map conRow).length = l.length := by simp
  repeat (first | refine awp_seq ?_ | refine awp_block ?_ | refine awp_region_lit rfl ?_ | (show AWL _ _ _ (⟨_, .move _, _, _, _, _⟩ :: _) _ _ _; refine awl_pw (wt_none rfl) (pv_move rfl rfl) rfl rfl ?_) | (show AWL _ _ _ (⟨_, .assign _, _, _, _, _⟩ :: _) _ _ _; refine awl_pw (wt_none rfl) (pv_assign rfl rfl) rfl rfl ?_) | (show AWL _ _ _ (⟨_, .call ⟨.builtin .len, _, _⟩, _, _, _, _⟩ :: _) _ _ _; refine awl_pw (wt_none rfl) (pv_len_v T0 rfl rfl rfl) rfl rfl ?_) | refine awl_nil ?_)
  refine awp_loop (fun m s h => ∃ (k : Nat), k ≤ l.length ∧ m = l.length - k ∧ (∀ j, j < k → q (l.getD j default) = false) ∧ s = [(0, .v (.slice (some ⟨ga, 0, none⟩) l.length cap)), (1, fv), (7, intA l.length), (8, intA k)] ∧ h = [.rw (.slice (some ⟨ga, 0, none⟩) l.length cap) 83 4 (l.map conRow), e]) ?_ ⟨0, Nat.zero_le _, rfl, (fun j hj => absurd hj (Nat.not_lt_zero _)), rfl, rfl⟩ (by first | ((repeat' (first | exact True.intro | refine ⟨rfl, ?_⟩)); all_goals fail) | fail) (by solve | repeat' constructor)
  rintro m s h ⟨k, hk, rfl, hno, rfl, rfl⟩
  by_cases hkt : k < l.length
  case neg =>
    obtain rfl : k = l.length := by omega
    repeat (first | refine awp_seq ?_ | refine awp_region_lit rfl ?_ | refine awp_exit ?_ | refine awp_ret ?_ | refine awp_cond_f rfl (by first | rfl | assumption | exact dF (by omega)) ?_ | (show AWL _ _ _ (⟨_, .assign _, _, _, _, _⟩ :: _) _ _ _; refine awl_pw (wt_none rfl) (pv_assign rfl rfl) rfl rfl ?_) | (show AWL _ _ _ (⟨_, .binOp .lss _ _ _ _, _, _, _, _⟩ :: _) _ _ _; refine awl_pw (wt_none rfl) (pv_lss rfl rfl rfl) rfl rfl ?_) | refine awl_nil ?_)
    exact body_r (h' := [.rw (.slice (some ⟨ga, 0, none⟩) l.length cap) 83 4 (l.map conRow), e]) (.cons rfl .nil) (by solve | repeat' constructor) ⟨⟨-1, rfl, .inl ⟨rfl, hno⟩⟩, rfl⟩
  have hc := hq _ (getD_mem (d := default) hkt)
  have r1 := conRow_at hkt
  cases c : q (l.getD k default)
  · rw [c] at hc
    repeat (first | refine awp_seq ?_ | refine awp_block ?_ | refine awp_region_lit rfl ?_ | refine awp_skip ?_ | refine awp_cond_t rfl (by first | rfl | assumption | exact dT (by omega)) ?_ | (show AWL _ _ _ (⟨_, .move _, _, _, _, _⟩ :: _) _ _ _; refine awl_pw (wt_none rfl) (pv_move rfl rfl) rfl rfl ?_) | (show AWL _ _ _ (⟨_, .assign _, _, _, _, _⟩ :: _) _ _ _; refine awl_pw (wt_none rfl) (pv_assign rfl rfl) rfl rfl ?_) | (show AWL _ _ _ (⟨_, .load _ _, _, _, _, _⟩ :: _) _ _ _; refine awl_lw (wt_none rfl) (lv_rpa T0 rfl rfl rfl (by solve | repeat' constructor) (by first | omega | (simp; omega)) (by first | assumption | rfl)) rfl rfl rfl ?_) | (show AWL _ _ _ (⟨_, .indexAddr _ _ _, _, _, _, _⟩ :: _) _ _ _; refine awl_pw (wt_none rfl) (pv_ix_own T0 rfl rfl rfl rfl (by omega) (by first | exact Int.toNat_natCast _ | rfl)) rfl rfl ?_) | (show AWL _ _ _ (⟨_, .binOp .lss _ _ _ _, _, _, _, _⟩ :: _) _ _ _; refine awl_pw (wt_none rfl) (pv_lss rfl rfl rfl) rfl rfl ?_) | refine awl_nil ?_)
    refine awl_hw (wt_none rfl) (st_acall T0 (hc) rfl rfl rfl rfl (by first | exact callee_lit | exact callee_v | exact callee_fn | assumption) (by solve | repeat' constructor) (by first | rfl | assumption) rfl (by first | ((repeat' (first | exact SubH.refl _ | apply SubH.cons | exact Pick.here | apply Pick.there)); all_goals fail) | fail) (fun _ _ => trivial) ?_)
    rintro r h ⟨rfl, rfl⟩
    repeat (first | refine awp_region_lit rfl ?_ | refine awp_skip ?_ | refine then_n ?_ | refine awp_cond_f rfl (by first | rfl | assumption | exact dF (by omega)) ?_ | (show AWL _ _ _ (⟨_, .move _, _, _, _, _⟩ :: _) _ _ _; refine awl_pw (wt_none rfl) (pv_move rfl rfl) rfl rfl ?_) | (show AWL _ _ _ (⟨_, .binOp .add _ _ _ _, _, _, _, _⟩ :: _) _ _ _; refine awl_pw (wt_none rfl) (pv_add rfl rfl rfl (by first | assumption | exact wr64 (by omega))) rfl rfl ?_) | refine awl_nil ?_)
    refine rnd_n _ _ _ ?_ ⟨k + 1, hkt, rfl, fun j hj => ?_, rfl, rfl⟩ (by first | ((repeat' (first | exact True.intro | refine ⟨rfl, ?_⟩)); all_goals fail) | fail) (by solve | repeat' constructor)
    · omega
    · by_cases e' : j = k
      · subst e'; exact c
      · exact hno j (by omega)
  · rw [c] at hc
    repeat (first | refine awp_seq ?_ | refine awp_block ?_ | refine awp_region_lit rfl ?_ | refine awp_skip ?_ | refine awp_cond_t rfl (by first | rfl | assumption | exact dT (by omega)) ?_ | (show AWL _ _ _ (⟨_, .move _, _, _, _, _⟩ :: _) _ _ _; refine awl_pw (wt_none rfl) (pv_move rfl rfl) rfl rfl ?_) | (show AWL _ _ _ (⟨_, .assign _, _, _, _, _⟩ :: _) _ _ _; refine awl_pw (wt_none rfl) (pv_assign rfl rfl) rfl rfl ?_) | (show AWL _ _ _ (⟨_, .load _ _, _, _, _, _⟩ :: _) _ _ _; refine awl_lw (wt_none rfl) (lv_rpa T0 rfl rfl rfl (by solve | repeat' constructor) (by first | omega | (simp; omega)) (by first | assumption | rfl)) rfl rfl rfl ?_) | (show AWL _ _ _ (⟨_, .indexAddr _ _ _, _, _, _, _⟩ :: _) _ _ _; refine awl_pw (wt_none rfl) (pv_ix_own T0 rfl rfl rfl rfl (by omega) (by first | exact Int.toNat_natCast _ | rfl)) rfl rfl ?_) | (show AWL _ _ _ (⟨_, .binOp .lss _ _ _ _, _, _, _, _⟩ :: _) _ _ _; refine awl_pw (wt_none rfl) (pv_lss rfl rfl rfl) rfl rfl ?_) | refine awl_nil ?_)
    refine awl_hw (wt_none rfl) (st_acall T0 (hc) rfl rfl rfl rfl (by first | exact callee_lit | exact callee_v | exact callee_fn | assumption) (by solve | repeat' constructor) (by first | rfl | assumption) rfl (by first | ((repeat' (first | exact SubH.refl _ | apply SubH.cons | exact Pick.here | apply Pick.there)); all_goals fail) | fail) (fun _ _ => trivial) ?_)
    rintro r h ⟨rfl, rfl⟩
    repeat (first | refine awp_seq ?_ | refine awp_region_lit rfl ?_ | refine awp_ret ?_ | refine then_n ?_ | refine then_r ?_ | refine blk_r ?_ | refine rnd_r ?_ | refine awp_cond_t rfl (by first | rfl | assumption | exact dT (by omega)) ?_ | (show AWL _ _ _ (⟨_, .move _, _, _, _, _⟩ :: _) _ _ _; refine awl_pw (wt_none rfl) (pv_move rfl rfl) rfl rfl ?_) | (show AWL _ _ _ (⟨_, .assign _, _, _, _, _⟩ :: _) _ _ _; refine awl_pw (wt_none rfl) (pv_assign rfl rfl) rfl rfl ?_) | refine awl_nil ?_)
    exact body_r (h' := [.rw (.slice (some ⟨ga, 0, none⟩) l.length cap) 83 4 (l.map conRow), e]) (.cons rfl .nil) (by solve | repeat' constructor) ⟨⟨k, rfl, .inr ⟨k, hkt, rfl, c, hno⟩⟩, rfl⟩
end Go.Proofs.Ytilhflfbbfeakaa
