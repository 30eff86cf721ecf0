/- Joined texts: No, Sl, Sm, Lf, Rdp, Rep, Sh0, Co0. -/
import Derived.Test.YtilhflfbbfeakaaZcWl
import Derived.Test.YtilhflfbbfeakaaZcGSk
import Derived.Test.YtilhflfbbfeakaaTz
import Derived.Test.YtilhflfbbfeakaaGTs
import Derived.Test.YtilhflfbbfeakaaBit
section
namespace Go.Proofs.Ytilhflfbbfeakaa
open Go Go.RowKit Go.Tl
set_option linter.unusedVariables false
set_option linter.unusedSimpArgs false
set_option maxRecDepth 100000
set_option maxHeartbeats 4000000
/-- what the rings of Walked make up -/
structure MadeOk (b : BookD) (l : List Int) : Prop where
  off : offB b l = true
  len : l.length = b.cons.length
  nn : 0 ≤ sumI l
attribute [local irreducible] AWP AWL AOp PV LV AWT AWE
section
variable {b : BookD} {ws : List Int} {g4 : Nat} {u12 : AV} {rest : List Ent}
end
end Go.Proofs.Ytilhflfbbfeakaa
end
section
namespace Go.Proofs.Ytilhflfbbfeakaa
open Go Go.RowKit Go.Tl
set_option linter.unusedVariables false
set_option linter.unusedSimpArgs false
set_option maxRecDepth 100000
set_option maxHeartbeats 4000000
structure RingsF (b : BookD) (rs : List RingD) (hs : List Int) : Prop where
  gr : GrFacts b (madeL b rs) hs
  all : rs.all (ringB b) = true
  len : rs.length ≤ b.cons.length
  cl : ∀ j, j < rs.length → (rs.getD j default).cons.length ≤ 1000
  listed : listedB b (madeL b rs) = true
attribute [local irreducible] AWP AWL AOp PV LV AWT AWE
section
variable {rs : List RingD} {cp c1 : Bool} {k : Nat} {a : Option Addr} {c : Nat} {rows : List (List AV)}
end
end Go.Proofs.Ytilhflfbbfeakaa
end
section
namespace Go.Proofs.Ytilhflfbbfeakaa
open Go Go.RowKit Go.Tl
set_option linter.unusedVariables false
set_option linter.unusedSimpArgs false
set_option maxRecDepth 100000
set_option maxHeartbeats 4000000
/-- what is left of the first contracts -/
def lstC (cs : List ConD) (f : Nat → Int) : Nat → List ConD
  | 0 => []
  | k + 1 => lstC cs f k ++ if 0 < (cs.getD k default).num - f k then [⟨(cs.getD k default).frm, (cs.getD k default).to, (cs.getD k default).num - f k, (cs.getD k default).price⟩] else []
def leastB (b : BookD) (f : Nat → Int) : BookD := ⟨b.houses, lstC b.cons f b.cons.length⟩
theorem lst_len (cs : List ConD) (f : Nat → Int) : ∀ k, (lstC cs f k).length ≤ k
  | 0 => Nat.le_refl _
  | k + 1 => by
    have := lst_len cs f k
    simp only [lstC, List.length_append]
    split <;> simp <;> omega
theorem lst_mem {cs : List ConD} {f : Nat → Int} {c : ConD} : ∀ {k : Nat}, c ∈ lstC cs f k → ∃ i, i < k ∧ 0 < (cs.getD i default).num - f i ∧ c = ⟨(cs.getD i default).frm, (cs.getD i default).to, (cs.getD i default).num - f i, (cs.getD i default).price⟩
  | 0, h => by cases h
  | k + 1, h => by
    simp only [lstC, List.mem_append] at h
    rcases h with h | h
    · obtain ⟨i, hi, r⟩ := lst_mem h
      exact ⟨i, by omega, r⟩
    · split at h
      · rename_i hp
        exact ⟨k, Nat.lt_succ_self _, hp, List.mem_singleton.1 h⟩
      · cases h
attribute [local irreducible] AWP AWL AOp PV LV AWT AWE
section
variable {c : ConD} {l : List Int} {i g7 : Nat} {cp : Bool} {u2 u4 u5 : AV} {rest : List Ent} {v : Int}
theorem ls_6 (hi : i < l.length) (hl : l.length ≤ 1000) (hc : 0 ≤ c.num ∧ c.num ≤ 100) (hb : -1000 ≤ l.getD i 0 ∧ l.getD i 0 ≤ 1000) (hv : c.num - l.getD i 0 = v) {ops : Array Oper} (h : regF Try.f43 6 = some ops) :
    AWP Try.prog Try.f43.ntmps none (.region 6 ops true) (cutQ (fun s h => s = [(1, .t (intsT cp l)), (2, u2), (4, u4), (5, u5), (6, intA i), (7, .v (ptrV g7))] ∧ h = .cl g7 67 [intA c.frm, intA c.to, intA v, intA c.price] :: rest))
      [(1, .t (intsT cp l)), (2, u2), (4, u4), (5, u5), (6, intA i), (7, .v (ptrV g7))] (.cl g7 67 [intA c.frm, intA c.to, intA c.num, intA c.price] :: rest) := by
  cases h
  subst hv
  refine awp_tree T0 [(0, 0), (1, 1), (2, 0), (3, 0), (4, 0), (5, 1), (6, 0), (7, 0), (8, 3)] (.op 0 0 (.op 1 1 (.op 2 0 (.op 3 0 (.op 4 0 (.op 5 1 (.op 6 0 (.op 7 0 (.op 8 3 .stop))))))))) [.cl g7 _ _] rfl (by kernel_rfl) (by solve | repeat' constructor) ?_
  refine awt_po rfl (wt_none rfl) (pv_fa T0 rfl rfl rfl (by simp; rfl)) rfl rfl ?_
  refine awt_lo rfl (wt_none rfl) (lv_cl1 T0 rfl rfl rfl (by solve | repeat' constructor) (by first | rfl | assumption)) rfl rfl rfl ?_
  refine awt_po rfl (wt_none rfl) (pv_move rfl rfl) rfl rfl ?_
  refine awt_po rfl (wt_none rfl) (pv_move rfl rfl) rfl rfl ?_
  refine awt_po rfl (wt_none rfl) (pv_ix_t T0 rfl rfl rfl rfl (by omega) (by first | exact Int.toNat_natCast _ | rfl)) rfl rfl ?_
  refine awt_lo rfl (wt_none rfl) (lv_elt_sc T0 rfl rfl rfl rfl) rfl rfl rfl ?_
  refine awt_po rfl (wt_none rfl) (pv_sub rfl rfl rfl (by first | assumption | exact wr64 (by omega))) rfl rfl ?_
  refine awt_po rfl (wt_none rfl) (pv_fa T0 rfl rfl rfl (by simp; rfl)) rfl rfl ?_
  refine awt_s (md := fun _ => True) rfl (wt_none rfl) (st_store T0 rfl rfl rfl rfl rfl (by first | assumption | (simp only [cellsA]; rfl)) rfl rfl rfl (by solve | repeat' constructor) (by solve | repeat' constructor) trivial ?_)
  refine awe_end ?_
  exact cut_n ⟨rfl, rfl⟩ (by first | ((repeat' (first | exact True.intro | refine ⟨rfl, ?_⟩)); all_goals fail) | fail) (SubH.refl _)
end
theorem least_p (cp cp' : Bool) (b : BookD) (l : List Int) (hl : l.length = b.cons.length) (hn : b.cons.length ≤ 1000) (hc : ∀ i, i < b.cons.length → 0 ≤ (b.cons.getD i default).num ∧ (b.cons.getD i default).num ≤ 100) (hb : ∀ i, i < l.length → -1000 ≤ l.getD i 0 ∧ l.getD i 0 ≤ 1000) :
    PCall Try.prog 43 [bookA cp b, .t (intsT cp' l)] (fun r => r = bookA true (leastB b (fun i => l.getD i 0))) := by
  refine acall_of_awp T0 Try.func43 rfl rfl rfl ?_
  repeat (first | refine awp_seq ?_ | refine awp_region_lit rfl ?_)
  refine awl_hw (by first | exact wt_none rfl | exact wt_some' rfl rfl rfl rfl (by first | rfl | assumption | exact dT (by omega) | exact dF (by omega))) (st_box rfl rfl (by first | rfl | assumption) (by first | assumption | (simp only [cellsA]; rfl)) rfl rfl ?_)
  intro g2
  skip
  refine awl_hw (by first | exact wt_none rfl | exact wt_some' rfl rfl rfl rfl (by first | rfl | assumption | exact dT (by omega) | exact dF (by omega))) (st_alloc T0 rfl rfl rfl rfl (by simp only [Value.cells, List.toList_toArray, List.map_cons, List.map_nil]; rfl) ?_)
  intro g4
  repeat (first | refine awp_seq ?_ | refine awp_region_lit rfl ?_ | ((first | (show AWL _ _ _ (⟨_, .load _ _, _, _, _, _⟩ :: _) _ _ _; refine awl_lw ?w (lv_cl1 T0 rfl rfl rfl (by solve | repeat' constructor) (by first | rfl | assumption)) rfl rfl rfl ?_) | (show AWL _ _ _ (⟨_, .fieldAddr _ _ _, _, _, _, _⟩ :: _) _ _ _; refine awl_pw ?w (pv_fa T0 rfl rfl rfl (by simp; rfl)) rfl rfl ?_) | (show AWL _ _ _ (⟨_, .build _ _, _, _, _, _⟩ :: _) _ _ _; refine awl_pw ?w (pv_build T0 rfl rfl rfl (by simp only [Value.cells, List.toList_toArray, List.map_cons, List.map_nil]; rfl) (by first | ((repeat' (first | exact BParts.nil | apply BParts.cons | rfl)); all_goals fail) | fail) (by first | ((repeat' (first | exact FillA.nil | exact Sp.done | apply FillA.cons | apply Sp.put | apply Sp.skip | (simp only [cellsA]; rfl) | rfl)); all_goals fail) | fail)) rfl rfl ?_)); case w => first | exact wt_none rfl | exact wt_some' rfl rfl rfl rfl (by first | rfl | assumption | exact dT (by omega) | exact dF (by omega))) | refine awl_nil ?_)
  refine awl_hw (by first | exact wt_none rfl | exact wt_some' rfl rfl rfl rfl (by first | rfl | assumption | exact dT (by omega) | exact dF (by omega))) (st_alloc T0 rfl rfl rfl rfl (by simp only [Value.cells, List.toList_toArray, List.map_cons, List.map_nil]; rfl) ?_)
  intro g5
  repeat (first | refine awp_seq ?_ | refine awp_block ?_ | refine awp_region_lit rfl ?_ | ((first | (show AWL _ _ _ (⟨_, .assign _, _, _, _, _⟩ :: _) _ _ _; refine awl_pw ?w (pv_assign rfl rfl) rfl rfl ?_)); case w => first | exact wt_none rfl | exact wt_some' rfl rfl rfl rfl (by first | rfl | assumption | exact dT (by omega) | exact dF (by omega))) | (show AWL _ _ _ (⟨_, .store _ _ _, _, _, _, _⟩ :: _) _ _ _; refine awl_hw (by first | exact wt_none rfl | exact wt_some' rfl rfl rfl rfl (by first | rfl | assumption | exact dT (by omega) | exact dF (by omega))) (st_store T0 rfl rfl rfl rfl rfl (by first | assumption | (simp only [cellsA]; rfl)) rfl rfl rfl (by solve | repeat' constructor) (by solve | repeat' constructor) trivial ?_)) | refine awl_nil ?_)
  refine awp_ghost (ghost_nilrow 67 4) ?_
  refine awp_loop (fun m s h => ∃ (k : Nat) (a : Option Addr) (c N : Nat) (rows : List (List AV)), k ≤ b.cons.length ∧ m = b.cons.length - k ∧ N = (lstC b.cons (fun i => l.getD i 0) k).length ∧ rows = (lstC b.cons (fun i => l.getD i 0) k).map conRow ∧ rows.length = N ∧
    s = [(1, .t (intsT cp' l)), (2, .v (ptrV g2)), (4, .v (ptrV g4)), (5, .v (ptrV g5)), (6, intA k)] ∧ h = [.cl g2 24 [intA b.houses, .t (consT cp b.cons)], .cl g4 24 [intA 0, noneA], .cl g5 24 [intA b.houses, .v (.slice a N c)], .rw (.slice a N c) 67 4 rows]) ?_ ⟨0, _, _, _, _, Nat.zero_le _, rfl, rfl, rfl, rfl, rfl, rfl⟩ (by first | ((repeat' (first | exact True.intro | refine ⟨rfl, ?_⟩)); all_goals fail) | fail) (by solve | repeat' constructor)
  rintro m s h ⟨k, a, c, N, rows, hk, rfl, hN, hrows, hrl, rfl, rfl⟩
  have hll := lst_len b.cons (fun i => l.getD i 0) k
  by_cases hlt : k < b.cons.length
  · have hnum := hc k hlt
    have hlb := hb k (by omega)
    obtain ⟨v, hv⟩ : ∃ v, (b.cons.getD k default).num - l.getD k 0 = v := ⟨_, rfl⟩
    repeat (first | refine awp_seq ?_ | refine awp_block ?_ | refine awp_region_lit rfl ?_ | refine awp_skip ?_ | refine then_n ?_ | refine awp_cond_t rfl (by first | rfl | assumption | exact dT (by omega)) ?_ | ((first | (show AWL _ _ _ (⟨_, .move _, _, _, _, _⟩ :: _) _ _ _; refine awl_pw ?w (pv_move rfl rfl) rfl rfl ?_) | (show AWL _ _ _ (⟨_, .load _ _, _, _, _, _⟩ :: _) _ _ _; refine awl_lw ?w (lv_cl1 T0 rfl rfl rfl (by solve | repeat' constructor) (by first | rfl | assumption)) rfl rfl rfl ?_) | (show AWL _ _ _ (⟨_, .load _ _, _, _, _, _⟩ :: _) _ _ _; refine awl_lw ?w (lv_elt_ag T0 rfl rfl rfl rfl (by solve | repeat' constructor)) rfl rfl rfl ?_) | (show AWL _ _ _ (⟨_, .fieldAddr _ _ _, _, _, _, _⟩ :: _) _ _ _; refine awl_pw ?w (pv_fa T0 rfl rfl rfl (by simp; rfl)) rfl rfl ?_) | (show AWL _ _ _ (⟨_, .indexAddr _ _ _, _, _, _, _⟩ :: _) _ _ _; refine awl_pw ?w (pv_ix_t T0 rfl rfl rfl rfl (by omega) (by first | exact Int.toNat_natCast _ | rfl)) rfl rfl ?_) | (show AWL _ _ _ (⟨_, .binOp .lss _ _ _ _, _, _, _, _⟩ :: _) _ _ _; refine awl_pw ?w (pv_lss rfl rfl rfl) rfl rfl ?_) | (show AWL _ _ _ (⟨_, .call ⟨.builtin .len, _, _⟩, _, _, _, _⟩ :: _) _ _ _; refine awl_pw ?w (pv_len_t T0 rfl rfl rfl) rfl rfl ?_)); case w => first | exact wt_none rfl | exact wt_some' rfl rfl rfl rfl (by first | rfl | assumption | exact dT (by omega) | exact dF (by omega))) | refine awl_nil ?_)
    refine awl_hw (by first | exact wt_none rfl | exact wt_some' rfl rfl rfl rfl (by first | rfl | assumption | exact dT (by omega) | exact dF (by omega))) (st_alloc T0 rfl rfl rfl rfl (by simp only [Value.cells, List.toList_toArray, List.map_cons, List.map_nil]; rfl) ?_)
    intro g7
    repeat (first | refine awp_seq ?_ | (show AWL _ _ _ (⟨_, .store _ _ _, _, _, _, _⟩ :: _) _ _ _; refine awl_hw (by first | exact wt_none rfl | exact wt_some' rfl rfl rfl rfl (by first | rfl | assumption | exact dT (by omega) | exact dF (by omega))) (st_store T0 rfl rfl rfl rfl rfl (by first | assumption | (simp only [cellsA]; rfl)) rfl rfl rfl (by solve | repeat' constructor) (by solve | repeat' constructor) trivial ?_)) | refine awl_nil ?_)
    refine awp_cut _ (awp_weak (by first | ((repeat' (first | exact True.intro | refine ⟨rfl, ?_⟩)); all_goals fail) | fail) (by solve | repeat' constructor) (ls_6 (c := b.cons.getD k default) (l := l) (i := k) (g7 := g7) (cp := cp') (u2 := .v (ptrV g2)) (u4 := .v (ptrV g4)) (u5 := .v (ptrV g5)) (v := v) (rest := [.cl g2 24 [intA b.houses, .t (consT cp b.cons)], .cl g4 24 [intA 0, noneA], .cl g5 24 [intA b.houses, .v (.slice a N c)], .rw (.slice a N c) 67 4 rows]) (by omega) (by omega) hnum hlb hv rfl)) ?_
    rintro s h ⟨rfl, rfl⟩
    by_cases hp : 0 < v
    · have dp := decide_eq_true hp
      have hst : lstC b.cons (fun i => l.getD i 0) (k + 1) = lstC b.cons (fun i => l.getD i 0) k ++ [⟨(b.cons.getD k default).frm, (b.cons.getD k default).to, v, (b.cons.getD k default).price⟩] := by
        simp only [lstC]; rw [hv, if_pos hp]
      repeat (first | refine awp_seq ?_ | refine awp_region_lit rfl ?_ | refine then_n ?_ | refine awp_cond_t rfl (by first | rfl | assumption | exact dT (by omega)) ?_ | ((first | (show AWL _ _ _ (⟨_, .load _ _, _, _, _, _⟩ :: _) _ _ _; refine awl_lw ?w (lv_cl1 T0 rfl rfl rfl (by solve | repeat' constructor) (by first | rfl | assumption)) rfl rfl rfl ?_) | (show AWL _ _ _ (⟨_, .load _ _, _, _, _, _⟩ :: _) _ _ _; refine awl_lw ?w (lv_cla T0 rfl rfl rfl (by solve | repeat' constructor) rfl) rfl rfl rfl ?_) | (show AWL _ _ _ (⟨_, .fieldAddr _ _ _, _, _, _, _⟩ :: _) _ _ _; refine awl_pw ?w (pv_fa T0 rfl rfl rfl (by simp; rfl)) rfl rfl ?_) | (show AWL _ _ _ (⟨_, .binOp .gtr _ _ _ _, _, _, _, _⟩ :: _) _ _ _; refine awl_pw ?w (pv_gtr rfl rfl rfl) rfl rfl ?_)); case w => first | exact wt_none rfl | exact wt_some' rfl rfl rfl rfl (by first | rfl | assumption | exact dT (by omega) | exact dF (by omega))) | refine awl_nil ?_)
      refine awl_hw (by first | exact wt_none rfl | exact wt_some' rfl rfl rfl rfl (by first | rfl | assumption | exact dT (by omega) | exact dF (by omega))) (st_bsl T0 rfl rfl rfl rfl rfl (by solve | repeat' constructor) rfl rfl rfl rfl (by simp only [List.map_cons, List.map_nil, cellsA]; rfl) ?_)
      intro g37
      skip
      refine awl_hw (by first | exact wt_none rfl | exact wt_some' rfl rfl rfl rfl (by first | rfl | assumption | exact dT (by omega) | exact dF (by omega))) (st_app T0 rfl rfl rfl rfl rfl rfl rfl rfl rfl (by solve | repeat' constructor) (by solve | repeat' constructor) rfl rfl hrl (by omega) (fun _ _ => trivial) ?_)
      intro a38 c38 p38
      repeat (first | refine awp_region_lit rfl ?_ | ((first | (show AWL _ _ _ (⟨_, .move _, _, _, _, _⟩ :: _) _ _ _; refine awl_pw ?w (pv_move rfl rfl) rfl rfl ?_) | (show AWL _ _ _ (⟨_, .assign _, _, _, _, _⟩ :: _) _ _ _; refine awl_pw ?w (pv_assign rfl rfl) rfl rfl ?_) | (show AWL _ _ _ (⟨_, .fieldAddr _ _ _, _, _, _, _⟩ :: _) _ _ _; refine awl_pw ?w (pv_fa T0 rfl rfl rfl (by simp; rfl)) rfl rfl ?_) | (show AWL _ _ _ (⟨_, .binOp .add _ _ _ _, _, _, _, _⟩ :: _) _ _ _; refine awl_pw ?w (pv_add rfl rfl rfl (by first | assumption | exact wr64 (by omega))) rfl rfl ?_)); case w => first | exact wt_none rfl | exact wt_some' rfl rfl rfl rfl (by first | rfl | assumption | exact dT (by omega) | exact dF (by omega))) | (show AWL _ _ _ (⟨_, .store _ _ _, _, _, _, _⟩ :: _) _ _ _; refine awl_hw (by first | exact wt_none rfl | exact wt_some' rfl rfl rfl rfl (by first | rfl | assumption | exact dT (by omega) | exact dF (by omega))) (st_store T0 rfl rfl rfl rfl rfl (by first | assumption | (simp only [cellsA]; rfl)) rfl rfl rfl (by solve | repeat' constructor) (by solve | repeat' constructor) trivial ?_)) | refine awl_nil ?_)
      refine rnd_n _ _ _ ?_ ⟨k + 1, a38, c38, N + 1, _, hlt, rfl, ?_, ?_, ?_, rfl, rfl⟩ (by first | ((repeat' (first | exact True.intro | refine ⟨rfl, ?_⟩)); all_goals fail) | fail) (by solve | repeat' constructor)
      · omega
      · rw [hst, List.length_append, ← hN]; rfl
      · rw [hst, hrows, List.map_append]; rfl
      · simp; omega
    · have dp := decide_eq_false hp
      have hst : lstC b.cons (fun i => l.getD i 0) (k + 1) = lstC b.cons (fun i => l.getD i 0) k := by
        simp only [lstC]; rw [hv, if_neg hp, List.append_nil]
      repeat (first | refine awp_seq ?_ | refine awp_region_lit rfl ?_ | refine awp_skip ?_ | refine then_n ?_ | refine awp_cond_f rfl (by first | rfl | assumption | exact dF (by omega)) ?_ | ((first | (show AWL _ _ _ (⟨_, .move _, _, _, _, _⟩ :: _) _ _ _; refine awl_pw ?w (pv_move rfl rfl) rfl rfl ?_) | (show AWL _ _ _ (⟨_, .assign _, _, _, _, _⟩ :: _) _ _ _; refine awl_pw ?w (pv_assign rfl rfl) rfl rfl ?_) | (show AWL _ _ _ (⟨_, .load _ _, _, _, _, _⟩ :: _) _ _ _; refine awl_lw ?w (lv_cl1 T0 rfl rfl rfl (by solve | repeat' constructor) (by first | rfl | assumption)) rfl rfl rfl ?_) | (show AWL _ _ _ (⟨_, .fieldAddr _ _ _, _, _, _, _⟩ :: _) _ _ _; refine awl_pw ?w (pv_fa T0 rfl rfl rfl (by simp; rfl)) rfl rfl ?_) | (show AWL _ _ _ (⟨_, .binOp .add _ _ _ _, _, _, _, _⟩ :: _) _ _ _; refine awl_pw ?w (pv_add rfl rfl rfl (by first | assumption | exact wr64 (by omega))) rfl rfl ?_) | (show AWL _ _ _ (⟨_, .binOp .gtr _ _ _ _, _, _, _, _⟩ :: _) _ _ _; refine awl_pw ?w (pv_gtr rfl rfl rfl) rfl rfl ?_)); case w => first | exact wt_none rfl | exact wt_some' rfl rfl rfl rfl (by first | rfl | assumption | exact dT (by omega) | exact dF (by omega))) | refine awl_nil ?_)
      refine rnd_n _ _ _ ?_ ⟨k + 1, a, c, N, _, hlt, rfl, ?_, ?_, ?_, rfl, rfl⟩ (by first | ((repeat' (first | exact True.intro | refine ⟨rfl, ?_⟩)); all_goals fail) | fail) (by solve | repeat' constructor)
      · omega
      · rw [hst]; exact hN
      · rw [hst]; exact hrows
      · exact hrl
  obtain rfl : k = b.cons.length := by omega
  repeat (first | refine awp_seq ?_ | refine awp_region_lit rfl ?_ | refine awp_exit ?_ | refine awp_ret ?_ | refine then_n ?_ | refine awp_cond_f rfl (by first | rfl | assumption | exact dF (by omega)) ?_ | ((first | (show AWL _ _ _ (⟨_, .move _, _, _, _, _⟩ :: _) _ _ _; refine awl_pw ?w (pv_move rfl rfl) rfl rfl ?_) | (show AWL _ _ _ (⟨_, .load _ _, _, _, _, _⟩ :: _) _ _ _; refine awl_lw ?w (lv_cl1 T0 rfl rfl rfl (by solve | repeat' constructor) (by first | rfl | assumption)) rfl rfl rfl ?_) | (show AWL _ _ _ (⟨_, .load _ _, _, _, _, _⟩ :: _) _ _ _; refine awl_lw ?w (lv_cla T0 rfl rfl rfl (by solve | repeat' constructor) rfl) rfl rfl rfl ?_) | (show AWL _ _ _ (⟨_, .fieldAddr _ _ _, _, _, _, _⟩ :: _) _ _ _; refine awl_pw ?w (pv_fa T0 rfl rfl rfl (by simp; rfl)) rfl rfl ?_) | (show AWL _ _ _ (⟨_, .binOp .lss _ _ _ _, _, _, _, _⟩ :: _) _ _ _; refine awl_pw ?w (pv_lss rfl rfl rfl) rfl rfl ?_) | (show AWL _ _ _ (⟨_, .call ⟨.builtin .len, _, _⟩, _, _, _, _⟩ :: _) _ _ _; refine awl_pw ?w (pv_len_t T0 rfl rfl rfl) rfl rfl ?_)); case w => first | exact wt_none rfl | exact wt_some' rfl rfl rfl rfl (by first | rfl | assumption | exact dT (by omega) | exact dF (by omega))) | (show AWL _ _ _ (⟨_, .store _ _ _, _, _, _, _⟩ :: _) _ _ _; refine awl_hw (by first | exact wt_none rfl | exact wt_some' rfl rfl rfl rfl (by first | rfl | assumption | exact dT (by omega) | exact dF (by omega))) (st_store T0 rfl rfl rfl rfl rfl (by first | assumption | (simp only [cellsA]; rfl)) rfl rfl rfl (by solve | repeat' constructor) (by solve | repeat' constructor) trivial ?_)) | refine awl_nil ?_)
  refine bodyQ_ghost (ghost_freeze_cell (g := g4) (j := 1) (v := .slice a N c) (E := 67) (sz := 4) (n := N) (rows := rows) (fun q => conL ((lstC b.cons (fun i => l.getD i 0) b.cons.length).getD q default)) (by solve | repeat' constructor) (by solve | repeat' constructor) rfl rfl hrl (by rw [hrows, hN]; exact rows_tree _ conRow conL (fun _ => rfl))) ?_
  refine body_p (.cons ⟨g4, _, _, _, _, rfl, rfl, (by solve | repeat' constructor), by simp, .inl rfl, rfl⟩ .nil) ?_
  subst hN
  rfl
end Go.Proofs.Ytilhflfbbfeakaa
end
section
namespace Go.Proofs.Ytilhflfbbfeakaa
open Go Go.RowKit Go.Tl
set_option linter.unusedVariables false
set_option linter.unusedSimpArgs false
theorem left_mem {b : BookD} {f : Nat → Int} {i : Nat} (hi : i < (leastB b f).cons.length) : ∃ j, j < b.cons.length ∧ 0 < (b.cons.getD j default).num - f j ∧ (leastB b f).cons.getD i default = ⟨(b.cons.getD j default).frm, (b.cons.getD j default).to, (b.cons.getD j default).num - f j, (b.cons.getD j default).price⟩ :=
  lst_mem (getD_mem (d := default) hi)
theorem left_valid {b : BookD} (hv : VBook b) {f : Nat → Int} (h0 : ∀ i, i < b.cons.length → 0 ≤ f i) : VBook (leastB b f) := by
  have hl := lst_len b.cons f b.cons.length
  have hlen := hv.len
  refine ⟨hv.houses, by show (lstC b.cons f b.cons.length).length ≤ 8; omega, fun i hi => ?_, fun i hi => ?_, fun i hi => ?_, fun i hi => ?_, fun i hi => ?_⟩ <;> obtain ⟨j, hj, hp, e⟩ := left_mem hi <;> rw [e]
  · exact hv.frm j hj
  · exact hv.to j hj
  · exact hv.ne j hj
  · have h1 := hv.num j hj
    have h2 := h0 j hj
    exact ⟨by show (1 : Int) ≤ _ - _; omega, by show _ - _ ≤ (100 : Int); omega⟩
  · exact hv.price j hj
theorem acc_congr2 {cs ds : List ConD} {f g : Nat → Int} {h : Nat} : ∀ {k : Nat}, (∀ i, i < k → cs.getD i default = ds.getD i default ∧ f i = g i) → accN cs f k h = accN ds g k h
  | 0, _ => rfl
  | k + 1, hk => by
    simp only [accN]
    rw [acc_congr2 (k := k) (fun i hi => hk i (by omega)), (hk k (Nat.lt_succ_self _)).1, (hk k (Nat.lt_succ_self _)).2]
theorem ringN_nn {r : RingD} (ha : 0 ≤ r.amount) (h : Nat) : ∀ k, 0 ≤ ringN r k h
  | 0 => Int.le_refl _
  | k + 1 => by
    have := ringN_nn ha h k
    simp only [ringN]; split <;> omega
theorem made_ge {rs : List RingD} {j h : Nat} (ha : ∀ i, i < rs.length → 0 ≤ (rs.getD i default).amount) : ∀ i, i ≤ rs.length → j < i → ringN (rs.getD j default) (rs.getD j default).cons.length h ≤ madeN rs i h ∧ 0 ≤ madeN rs i h
  | 0, _, hj => absurd hj (Nat.not_lt_zero _)
  | i + 1, hi, hj => by
    have hnn : ∀ i, i ≤ rs.length → 0 ≤ madeN rs i h := fun i => by
      induction i with
      | zero => intro _; exact Int.le_refl _
      | succ i ih => intro hi; have := ih (by omega); have := ringN_nn (ha i (by omega)) h (rs.getD i default).cons.length; simp only [madeN]; omega
    have h1 := ringN_nn (ha i (by omega)) h (rs.getD i default).cons.length
    refine ⟨?_, hnn _ hi⟩
    simp only [madeN]
    by_cases e : j = i
    · subst e; have := hnn j (by omega); omega
    · have := (made_ge (h := h) ha i (by omega) (show j < i by omega)).1
      omega
end Go.Proofs.Ytilhflfbbfeakaa
end
section
namespace Go.Proofs.Ytilhflfbbfeakaa
open Go Go.RowKit Go.Tl
set_option linter.unusedVariables false
set_option linter.unusedSimpArgs false
set_option maxRecDepth 100000
set_option maxHeartbeats 4000000
attribute [local irreducible] AWP AWL AOp PV LV AWT AWE
theorem seller_v {c : ConD} {x : Int} (h : c.frm = x) : PCall Try.prog 106 [conA c] (fun r => r = intA x) := by subst h; exact seller_p c
theorem buyer_v {c : ConD} {x : Int} (h : c.to = x) : PCall Try.prog 107 [conA c] (fun r => r = intA x) := by subst h; exact buyer_p c
/-- what has come to a house with the first contracts, and with the seller of one more -/
def midN (cs : List ConD) (f : Nat → Int) (k h : Nat) : Int := accN cs f k h - (if (cs.getD k default).frm = (h : Int) then f k else 0)
theorem sums_p {fv : AV} {gN : Nat} {fsN csN : List AV} {o : Ob} {f : Nat → Int} (cp : Bool) (b : BookD) (hv : VBook b) (hcal : Tl.Callee fv gN fsN csN) (hg : T0.fns.any gN.beq = true) (hb : ∀ i, i < b.cons.length → -1000000 ≤ f i ∧ f i ≤ 1000000)
    (hnum : ∀ i : Nat, i < b.cons.length → ACall Try.prog gN (fsN ++ [intA i] ++ csN) [.ob o] (fun r h' => r = intA (f i) ∧ h' = [.ob o])) :
    ACall Try.prog 57 [bookA cp b, fv] [.ob o] (fun r h' => r = .t (intsT true (netL b f)) ∧ h' = [.ob o]) := by
  have hh := hv.houses
  obtain ⟨n, hn⟩ : ∃ n : Nat, b.houses = n := ⟨b.houses.toNat, by omega⟩
  have hlen := hv.len
  refine acall_of_awp T0 Try.func57 rfl rfl rfl ?_
  repeat (first | refine awp_seq ?_ | refine awp_region_lit rfl ?_)
  refine awl_hw (wt_none rfl) (st_box rfl rfl (by first | rfl | assumption) (by first | assumption | (simp only [cellsA]; rfl)) rfl rfl ?_)
  intro g2
  repeat (first | refine awp_seq ?_ | refine awp_region_lit rfl ?_ | (show AWL _ _ _ (⟨_, .assign _, _, _, _, _⟩ :: _) _ _ _; refine awl_pw (wt_none rfl) (pv_assign rfl rfl) rfl rfl ?_) | (show AWL _ _ _ (⟨_, .load _ _, _, _, _, _⟩ :: _) _ _ _; refine awl_lw (wt_none rfl) (lv_cl1 T0 rfl rfl rfl (by solve | repeat' constructor) (by first | rfl | assumption)) rfl rfl rfl ?_) | (show AWL _ _ _ (⟨_, .fieldAddr _ _ _, _, _, _, _⟩ :: _) _ _ _; refine awl_pw (wt_none rfl) (pv_fa T0 rfl rfl rfl (by simp; rfl)) rfl rfl ?_) | refine awl_nil ?_)
  rw [hn]
  refine awl_hw (wt_none rfl) (aop_make T0 rfl rfl rfl rfl rfl rfl rfl rfl (by omega) rfl ?_)
  intro ga
  repeat (first | refine awp_seq ?_ | refine awp_block ?_ | refine awp_region_lit rfl ?_ | (show AWL _ _ _ (⟨_, .move _, _, _, _, _⟩ :: _) _ _ _; refine awl_pw (wt_none rfl) (pv_move rfl rfl) rfl rfl ?_) | (show AWL _ _ _ (⟨_, .assign _, _, _, _, _⟩ :: _) _ _ _; refine awl_pw (wt_none rfl) (pv_assign rfl rfl) rfl rfl ?_) | (show AWL _ _ _ (⟨_, .load _ _, _, _, _, _⟩ :: _) _ _ _; refine awl_lw (wt_none rfl) (lv_cl1 T0 rfl rfl rfl (by solve | repeat' constructor) (by first | rfl | assumption)) rfl rfl rfl ?_) | (show AWL _ _ _ (⟨_, .fieldAddr _ _ _, _, _, _, _⟩ :: _) _ _ _; refine awl_pw (wt_none rfl) (pv_fa T0 rfl rfl rfl (by simp; rfl)) rfl rfl ?_) | (show AWL _ _ _ (⟨_, .call ⟨.builtin .len, _, _⟩, _, _, _, _⟩ :: _) _ _ _; refine awl_pw (wt_none rfl) (pv_len_t T0 rfl rfl rfl) rfl rfl ?_) | refine awl_nil ?_)
  rw [fRows_zero n b.cons f]
  refine awp_loop (fun m s h => ∃ (k : Nat), k ≤ b.cons.length ∧ m = b.cons.length - k ∧ s = [(1, fv), (5, .v (.slice (some ⟨ga, 0, none⟩) n n)), (14, .t (consT cp b.cons)), (15, intA b.cons.length), (16, intA k)] ∧ h = [.rw (.slice (some ⟨ga, 0, none⟩) n n) 3 1 (fRows (accN b.cons f k) n), .ob o]) ?_ ⟨0, Nat.zero_le _, rfl, rfl, rfl⟩ (by first | ((repeat' (first | exact True.intro | refine ⟨rfl, ?_⟩)); all_goals fail) | fail) (by solve | repeat' constructor)
  rintro m s h ⟨k, hk, rfl, rfl, rfl⟩
  by_cases hlt : k < b.cons.length
  case neg =>
    obtain rfl : k = b.cons.length := by omega
    have hnl : (netL b f).length = n := by simp [netL, hn]
    refine awp_ghost (ghost_freeze (E := 3) (sz := 1) (n := (netL b f).length) (rows := fRows (accN b.cons f b.cons.length) n) (d := 5) (fun q => [.sc (.int .i64 ((netL b f).getD q 0))]) (by solve | repeat' constructor) rfl (by rw [fRows_len, hnl]) (by rw [hnl]; exact fRows_tree (by simp [netL, hn]))) ?_
    repeat (first | refine awp_seq ?_ | refine awp_region_lit rfl ?_ | refine awp_exit ?_ | refine awp_ret ?_ | refine awp_cond_f rfl (by first | rfl | assumption | exact dF (by omega)) ?_ | (show AWL _ _ _ (⟨_, .move _, _, _, _, _⟩ :: _) _ _ _; refine awl_pw (wt_none rfl) (pv_move rfl rfl) rfl rfl ?_) | (show AWL _ _ _ (⟨_, .assign _, _, _, _, _⟩ :: _) _ _ _; refine awl_pw (wt_none rfl) (pv_assign rfl rfl) rfl rfl ?_) | (show AWL _ _ _ (⟨_, .binOp .lss _ _ _ _, _, _, _, _⟩ :: _) _ _ _; refine awl_pw (wt_none rfl) (pv_lss rfl rfl rfl) rfl rfl ?_) | refine awl_nil ?_)
    exact body_r (h' := [.ob o]) (.cons rfl .nil) (by solve | repeat' constructor) ⟨rfl, rfl⟩
  have hfr := hv.frm k hlt
  have hto := hv.to k hlt
  have hbk := hb k hlt
  have hac : ∀ h : Nat, -100000000 ≤ accN b.cons f k h ∧ accN b.cons f k h ≤ 100000000 := fun h => acc_small (by omega) (fun i hi => hb i (by omega))
  obtain ⟨jt, hjt⟩ : ∃ j : Nat, (b.cons.getD k default).to = j := ⟨(b.cons.getD k default).to.toNat, by omega⟩
  obtain ⟨jf, hjf⟩ : ∃ j : Nat, (b.cons.getD k default).frm = j := ⟨(b.cons.getD k default).frm.toNat, by omega⟩
  have hnk := hnum k hlt
  repeat (first | refine awp_seq ?_ | refine awp_block ?_ | refine awp_region_lit rfl ?_ | refine awp_skip ?_ | refine awp_cond_t rfl (by first | rfl | assumption | exact dT (by omega)) ?_ | (show AWL _ _ _ (⟨_, .move _, _, _, _, _⟩ :: _) _ _ _; refine awl_pw (wt_none rfl) (pv_move rfl rfl) rfl rfl ?_) | (show AWL _ _ _ (⟨_, .load _ _, _, _, _, _⟩ :: _) _ _ _; refine awl_lw (wt_none rfl) (lv_elt_ag T0 rfl rfl rfl rfl (by solve | repeat' constructor)) rfl rfl rfl ?_) | (show AWL _ _ _ (⟨_, .indexAddr _ _ _, _, _, _, _⟩ :: _) _ _ _; refine awl_pw (wt_none rfl) (pv_ix_t T0 rfl rfl rfl rfl (by omega) (by first | exact Int.toNat_natCast _ | rfl)) rfl rfl ?_) | (show AWL _ _ _ (⟨_, .binOp .lss _ _ _ _, _, _, _, _⟩ :: _) _ _ _; refine awl_pw (wt_none rfl) (pv_lss rfl rfl rfl) rfl rfl ?_) | refine awl_nil ?_)
  refine awl_hw (wt_none rfl) (st_alloc T0 rfl rfl rfl rfl (by simp only [Value.cells, List.toList_toArray, List.map_cons, List.map_nil]; rfl) ?_)
  intro g7
  repeat (first | refine awp_seq ?_ | refine awp_region_lit rfl ?_ | (show AWL _ _ _ (⟨_, .assign _, _, _, _, _⟩ :: _) _ _ _; refine awl_pw (wt_none rfl) (pv_assign rfl rfl) rfl rfl ?_) | (show AWL _ _ _ (⟨_, .store _ _ _, _, _, _, _⟩ :: _) _ _ _; refine awl_hw (wt_none rfl) (st_store T0 rfl rfl rfl rfl rfl (by first | assumption | (simp only [cellsA]; rfl)) rfl rfl rfl (by solve | repeat' constructor) (by solve | repeat' constructor) trivial ?_)) | refine awl_nil ?_)
  refine awl_hw (wt_none rfl) (st_call T0 (ends_p) rfl rfl rfl rfl (by first | exact callee_lit | exact callee_v | exact callee_fn | assumption) (by solve | repeat' constructor) (by first | rfl | assumption) rfl ?_)
  rintro _ rfl
  repeat (first | refine awp_block ?_ | (show AWL _ _ _ (⟨_, .move _, _, _, _, _⟩ :: _) _ _ _; refine awl_pw (wt_none rfl) (pv_move rfl rfl) rfl rfl ?_) | refine awl_nil ?_)
  refine awp_loop (fun m s h => ∃ (q : Nat), q ≤ 2 ∧ m = 2 - q ∧ s = [(1, fv), (5, .v (.slice (some ⟨ga, 0, none⟩) n n)), (6, intA k), (7, .v (ptrV g7)), (14, .t (consT cp b.cons)), (15, intA b.cons.length), (16, intA k), (21, endsA), (22, intA q)] ∧
    h = [.cl g7 83 [intA (b.cons.getD k default).frm, intA (b.cons.getD k default).to, intA (b.cons.getD k default).num, intA (b.cons.getD k default).price], .rw (.slice (some ⟨ga, 0, none⟩) n n) 3 1 (fRows (if q = 0 then accN b.cons f k else if q = 1 then midN b.cons f k else accN b.cons f (k + 1)) n), .ob o]) ?_ ⟨0, by omega, rfl, rfl, rfl⟩ (by first | ((repeat' (first | exact True.intro | refine ⟨rfl, ?_⟩)); all_goals fail) | fail) (by solve | repeat' constructor)
  rintro m s h ⟨q, hq, rfl, rfl, rfl⟩
  rcases (show q = 0 ∨ q = 1 ∨ q = 2 by omega) with rfl | rfl | rfl
  · rw [if_pos rfl]
    repeat (first | refine awp_seq ?_ | refine awp_block ?_ | refine awp_region_lit rfl ?_ | refine awp_skip ?_ | refine awp_cond_t rfl (by first | rfl | assumption | exact dT (by omega)) ?_ | (show AWL _ _ _ (⟨_, .index _ _ _, _, _, _, _⟩ :: _) _ _ _; refine awl_pw (wt_none rfl) (pv_index T0 rfl rfl rfl rfl rfl (by omega) (by first | rfl | (simp; rfl)) rfl (by first | exact .inl rfl | exact .inr rfl) rfl) rfl rfl ?_) | (show AWL _ _ _ (⟨_, .binOp .lss _ _ _ _, _, _, _, _⟩ :: _) _ _ _; refine awl_pw (wt_none rfl) (pv_lss rfl rfl rfl) rfl rfl ?_) | refine awl_nil ?_)
    refine awl_hw (wt_none rfl) (st_alloc T0 rfl rfl rfl rfl (by simp only [Value.cells, List.toList_toArray, List.map_cons, List.map_nil]; rfl) ?_)
    intro g9
    repeat (first | refine then_n ?_ | (show AWL _ _ _ (⟨_, .store _ _ _, _, _, _, _⟩ :: _) _ _ _; refine awl_hw (wt_none rfl) (st_store T0 rfl rfl rfl rfl rfl (by first | assumption | (simp only [cellsA]; rfl)) rfl rfl rfl (by solve | repeat' constructor) (by solve | repeat' constructor) trivial ?_)) | refine awl_nil ?_)
    refine awp_cutB _ (awp_weak (by first | ((repeat' (first | exact True.intro | refine ⟨rfl, ?_⟩)); all_goals fail) | fail) (by solve | repeat' constructor) (sums_8s (c := b.cons.getD k default) (fv := fv) (t14 := .t (consT cp b.cons)) (e21 := endsA) (l15 := b.cons.length) (q := 0) (g7 := g7) (g9 := g9) (ga := ga) (n := n) (k := k) (j := jf) (F := 106) (A := accN b.cons f k) (G := midN b.cons f k) (v := f k) (seller_v hjf) rfl hcal hg hnk (by omega) (by have := hac jf; omega) (by omega) (fun q hq => ?_) rfl)) ?_
    · show accN _ _ k q - _ = _
      by_cases e : q = jf
      · subst e; rw [if_pos hjf, if_pos rfl]; omega
      · rw [if_neg (by omega), if_neg e, Int.sub_zero]
    rintro s h ⟨rfl, rfl⟩
    repeat (first | refine awp_region_lit rfl ?_ | (show AWL _ _ _ (⟨_, .move _, _, _, _, _⟩ :: _) _ _ _; refine awl_pw (wt_none rfl) (pv_move rfl rfl) rfl rfl ?_) | (show AWL _ _ _ (⟨_, .binOp .add _ _ _ _, _, _, _, _⟩ :: _) _ _ _; refine awl_pw (wt_none rfl) (pv_add rfl rfl rfl (by first | assumption | exact wr64 (by omega))) rfl rfl ?_) | refine awl_nil ?_)
    refine rnd_n _ _ _ ?_ ⟨1, by omega, rfl, rfl, rfl⟩ (by first | ((repeat' (first | exact True.intro | refine ⟨rfl, ?_⟩)); all_goals fail) | fail) (by solve | repeat' constructor)
    omega
  · rw [if_neg (by omega), if_pos rfl]
    repeat (first | refine awp_seq ?_ | refine awp_block ?_ | refine awp_region_lit rfl ?_ | refine awp_skip ?_ | refine awp_cond_t rfl (by first | rfl | assumption | exact dT (by omega)) ?_ | (show AWL _ _ _ (⟨_, .index _ _ _, _, _, _, _⟩ :: _) _ _ _; refine awl_pw (wt_none rfl) (pv_index T0 rfl rfl rfl rfl rfl (by omega) (by first | rfl | (simp; rfl)) rfl (by first | exact .inl rfl | exact .inr rfl) rfl) rfl rfl ?_) | (show AWL _ _ _ (⟨_, .binOp .lss _ _ _ _, _, _, _, _⟩ :: _) _ _ _; refine awl_pw (wt_none rfl) (pv_lss rfl rfl rfl) rfl rfl ?_) | refine awl_nil ?_)
    refine awl_hw (wt_none rfl) (st_alloc T0 rfl rfl rfl rfl (by simp only [Value.cells, List.toList_toArray, List.map_cons, List.map_nil]; rfl) ?_)
    intro g9
    repeat (first | refine then_n ?_ | (show AWL _ _ _ (⟨_, .store _ _ _, _, _, _, _⟩ :: _) _ _ _; refine awl_hw (wt_none rfl) (st_store T0 rfl rfl rfl rfl rfl (by first | assumption | (simp only [cellsA]; rfl)) rfl rfl rfl (by solve | repeat' constructor) (by solve | repeat' constructor) trivial ?_)) | refine awl_nil ?_)
    refine awp_cutB _ (awp_weak (by first | ((repeat' (first | exact True.intro | refine ⟨rfl, ?_⟩)); all_goals fail) | fail) (by solve | repeat' constructor) (sums_8b (c := b.cons.getD k default) (fv := fv) (t14 := .t (consT cp b.cons)) (e21 := endsA) (l15 := b.cons.length) (q := 1) (g7 := g7) (g9 := g9) (ga := ga) (n := n) (k := k) (j := jt) (F := 107) (A := midN b.cons f k) (G := accN b.cons f (k + 1)) (v := f k) (buyer_v hjt) rfl hcal hg hnk (by omega) (by have := hac jt; unfold midN; split <;> omega) (by omega) (fun q hq => ?_) rfl)) ?_
    · show accN _ _ k q + _ - _ = _
      unfold midN
      by_cases e : q = jt
      · subst e; rw [if_pos hjt, if_pos rfl]; omega
      · rw [if_neg (by omega : ¬ (b.cons.getD k default).to = (q : Int)), if_neg e]; omega
    rintro s h ⟨rfl, rfl⟩
    repeat (first | refine awp_region_lit rfl ?_ | (show AWL _ _ _ (⟨_, .move _, _, _, _, _⟩ :: _) _ _ _; refine awl_pw (wt_none rfl) (pv_move rfl rfl) rfl rfl ?_) | (show AWL _ _ _ (⟨_, .binOp .add _ _ _ _, _, _, _, _⟩ :: _) _ _ _; refine awl_pw (wt_none rfl) (pv_add rfl rfl rfl (by first | assumption | exact wr64 (by omega))) rfl rfl ?_) | refine awl_nil ?_)
    refine rnd_n _ _ _ ?_ ⟨2, by omega, rfl, rfl, rfl⟩ (by first | ((repeat' (first | exact True.intro | refine ⟨rfl, ?_⟩)); all_goals fail) | fail) (by solve | repeat' constructor)
    omega
  · rw [if_neg (by omega), if_neg (by omega)]
    repeat (first | refine awp_seq ?_ | refine awp_region_lit rfl ?_ | refine awp_exit ?_ | refine awp_cond_f rfl (by first | rfl | assumption | exact dF (by omega)) ?_ | (show AWL _ _ _ (⟨_, .move _, _, _, _, _⟩ :: _) _ _ _; refine awl_pw (wt_none rfl) (pv_move rfl rfl) rfl rfl ?_) | (show AWL _ _ _ (⟨_, .binOp .add _ _ _ _, _, _, _, _⟩ :: _) _ _ _; refine awl_pw (wt_none rfl) (pv_add rfl rfl rfl (by first | assumption | exact wr64 (by omega))) rfl rfl ?_) | (show AWL _ _ _ (⟨_, .binOp .lss _ _ _ _, _, _, _, _⟩ :: _) _ _ _; refine awl_pw (wt_none rfl) (pv_lss rfl rfl rfl) rfl rfl ?_) | refine awl_nil ?_)
    refine rnd_n _ _ _ ?_ ⟨k + 1, hlt, rfl, rfl, rfl⟩ (by first | ((repeat' (first | exact True.intro | refine ⟨rfl, ?_⟩)); all_goals fail) | fail) (by solve | repeat' constructor)
    omega
end Go.Proofs.Ytilhflfbbfeakaa
end
section
namespace Go.Proofs.Ytilhflfbbfeakaa
open Go Go.RowKit Go.Tl
set_option linter.unusedVariables false
set_option linter.unusedSimpArgs false
set_option maxRecDepth 100000
set_option maxHeartbeats 4000000
attribute [local irreducible] AWP AWL AOp PV LV AWT AWE
def payF (b : BookD) (p : Int) (i : Nat) : Int := (b.cons.getD i default).num * ((b.cons.getD i default).price - p)
theorem pay_bd {x y p : Int} (h1 : 1 ≤ x ∧ x ≤ 100) (h2 : 1 ≤ y ∧ y ≤ 1000) (h3 : 1 ≤ p ∧ p ≤ 1000) : -1000000 ≤ x * (y - p) ∧ x * (y - p) ≤ 1000000 := by
  have a1 := Int.mul_le_mul_of_nonneg_left (show y - p ≤ 1000 by omega) (show 0 ≤ x by omega)
  have a2 := Int.mul_le_mul_of_nonneg_left (show -1000 ≤ y - p by omega) (show 0 ≤ x by omega)
  omega
theorem settled_q {p : Int} {r : Bool} (h : inB p 1 1000 = r) : PCall Try.prog 56 [intA p] (fun x => x = boolA r) := by
  refine acall_of_awp T0 Try.func56 rfl rfl rfl ?_
  repeat (first | refine awp_seq ?_ | refine awp_region_lit rfl ?_ | (show AWL _ _ _ (⟨_, .move _, _, _, _, _⟩ :: _) _ _ _; refine awl_pw (wt_none rfl) (pv_move rfl rfl) rfl rfl ?_) | (show AWL _ _ _ (⟨_, .assign _, _, _, _, _⟩ :: _) _ _ _; refine awl_pw (wt_none rfl) (pv_assign rfl rfl) rfl rfl ?_) | refine awl_nil ?_)
  refine awl_hw (wt_none rfl) (st_call T0 (within_q h) rfl rfl rfl rfl (by first | exact callee_lit | exact callee_v | exact callee_fn | assumption) (by solve | repeat' constructor) (by first | rfl | assumption) rfl ?_)
  rintro _ rfl
  repeat (first | refine awp_ret ?_ | (show AWL _ _ _ (⟨_, .assign _, _, _, _, _⟩ :: _) _ _ _; refine awl_pw (wt_none rfl) (pv_assign rfl rfl) rfl rfl ?_) | refine awl_nil ?_)
  exact body_p (.cons rfl .nil) rfl
theorem paid_p (c : ConD) (p : Int) (h1 : 1 ≤ c.num ∧ c.num ≤ 100) (h2 : 1 ≤ c.price ∧ c.price ≤ 1000) (h3 : 1 ≤ p ∧ p ≤ 1000) : PCall Try.prog 59 [conA c, intA p] (fun r => r = intA (c.num * (c.price - p))) := by
  have hb := pay_bd h1 h2 h3
  refine acall_of_awp T0 Try.func59 rfl rfl rfl ?_
  repeat (first | refine awp_seq ?_ | refine awp_region_lit rfl ?_)
  refine awl_hw (wt_none rfl) (st_box rfl rfl (by first | rfl | assumption) (by first | assumption | (simp only [cellsA]; rfl)) rfl rfl ?_)
  intro g2
  repeat (first | refine awp_seq ?_ | refine awp_region_lit rfl ?_ | refine awp_ret ?_ | (show AWL _ _ _ (⟨_, .move _, _, _, _, _⟩ :: _) _ _ _; refine awl_pw (wt_none rfl) (pv_move rfl rfl) rfl rfl ?_) | (show AWL _ _ _ (⟨_, .assign _, _, _, _, _⟩ :: _) _ _ _; refine awl_pw (wt_none rfl) (pv_assign rfl rfl) rfl rfl ?_) | (show AWL _ _ _ (⟨_, .load _ _, _, _, _, _⟩ :: _) _ _ _; refine awl_lw (wt_none rfl) (lv_cl1 T0 rfl rfl rfl (by solve | repeat' constructor) (by first | rfl | assumption)) rfl rfl rfl ?_) | (show AWL _ _ _ (⟨_, .fieldAddr _ _ _, _, _, _, _⟩ :: _) _ _ _; refine awl_pw (wt_none rfl) (pv_fa T0 rfl rfl rfl (by simp; rfl)) rfl rfl ?_) | (show AWL _ _ _ (⟨_, .binOp .sub _ _ _ _, _, _, _, _⟩ :: _) _ _ _; refine awl_pw (wt_none rfl) (pv_sub rfl rfl rfl (by first | assumption | exact wr64 (by omega))) rfl rfl ?_) | (show AWL _ _ _ (⟨_, .binOp .mul _ _ _ _, _, _, _, _⟩ :: _) _ _ _; refine awl_pw (wt_none rfl) (pv_mul rfl rfl rfl (by first | assumption | exact wr64 (by omega))) rfl rfl ?_) | refine awl_nil ?_)
  exact body_p (.cons rfl .nil) rfl
theorem money1_p (cp : Bool) (b : BookD) (p : Int) (g gp i : Nat) (hi : i < b.cons.length) (hv : VBook b) (h3 : 1 ≤ p ∧ p ≤ 1000) : ACall Try.prog 58 [intA i, .v (ptrV g), .v (ptrV gp)] [.cl g 33 [intA b.houses, .t (consT cp b.cons)], .cl gp 3 [intA p]]
    (fun r h' => r = intA (-(payF b p i)) ∧ h' = [.cl g 33 [intA b.houses, .t (consT cp b.cons)], .cl gp 3 [intA p]]) := by
  have hlen := hv.len
  have hb := pay_bd (hv.num i hi) (hv.price i hi) h3
  refine acall_of_awp T0 Try.func58 rfl rfl rfl ?_
  unfold payF
  repeat (first | refine awp_seq ?_ | refine awp_region_lit rfl ?_ | (show AWL _ _ _ (⟨_, .assign _, _, _, _, _⟩ :: _) _ _ _; refine awl_pw (wt_none rfl) (pv_assign rfl rfl) rfl rfl ?_) | refine awl_nil ?_)
  refine awp_tree T0 [(0, 0), (1, 1), (2, 0), (3, 0), (4, 1), (5, 1), (6, 3), (7, 0), (8, 0)] (.op 0 0 (.op 1 1 (.op 2 0 (.op 3 0 (.op 4 1 (.op 5 1 (.op 6 3 (.op 7 0 (.op 8 0 .stop))))))))) _ rfl (by kernel_rfl) (SubH.refl _) ?_
  refine awt_po rfl (wt_none rfl) (pv_fa T0 rfl rfl rfl (by simp; rfl)) rfl rfl ?_
  refine awt_lo rfl (wt_none rfl) (lv_cl1 T0 rfl rfl rfl (by solve | repeat' constructor) (by first | rfl | assumption)) rfl rfl rfl ?_
  refine awt_po rfl (wt_none rfl) (pv_move rfl rfl) rfl rfl ?_
  refine awt_po rfl (wt_none rfl) (pv_ix_t T0 rfl rfl rfl rfl (by omega) (by first | exact Int.toNat_natCast _ | rfl)) rfl rfl ?_
  refine awt_lo rfl (wt_none rfl) (lv_elt_ag T0 rfl rfl rfl rfl (by solve | repeat' constructor)) rfl rfl rfl ?_
  refine awt_lo rfl (wt_none rfl) (lv_cl1 T0 rfl rfl rfl (by solve | repeat' constructor) (by first | rfl | assumption)) rfl rfl rfl ?_
  refine awt_s (md := fun _ => True) rfl (wt_none rfl) (st_call T0 (paid_p (b.cons.getD i default) p (hv.num i hi) (hv.price i hi) h3) rfl rfl rfl rfl (by first | exact callee_lit | exact callee_v | exact callee_fn | assumption) (by solve | repeat' constructor) (by first | rfl | assumption) rfl ?_)
  rintro _ rfl
  refine awe_p rfl (wt_none rfl) (pv_neg rfl rfl (wr64 (by omega))) rfl rfl ?_
  refine awe_p rfl (wt_none rfl) (pv_assign rfl rfl) rfl rfl ?_
  refine awe_end ?_
  repeat (first | refine awp_ret ?_)
  exact body_r (h' := [.cl g 33 [intA b.houses, .t (consT cp b.cons)], .cl gp 3 [intA p]]) (.cons rfl .nil) (by solve | repeat' constructor) ⟨by show intA (0 - _) = _; rw [Int.zero_sub], rfl⟩
/-- what Money returns -/
def monA (b : BookD) (p : Int) : AV := if faultN b ≠ 0 then .tup [noneA, intA (faultN b)] else if inB p 1 1000 = false then .tup [noneA, intA 2] else .tup [.t (intsT true (netL b (fun i => -(payF b p i)))), intA 0]
theorem money_p (cp : Bool) (b : BookD) (p : Int) (hl : b.cons.length ≤ 1000) : PCall Try.prog 20 [bookA cp b, intA p] (fun r => r = monA b p) := by
  refine acall_of_awp T0 Try.func20 rfl rfl rfl ?_
  unfold monA
  repeat (first | refine awp_seq ?_ | refine awp_region_lit rfl ?_)
  refine awl_hw (wt_none rfl) (st_box rfl rfl (by first | rfl | assumption) (by first | assumption | (simp only [cellsA]; rfl)) rfl rfl ?_)
  intro g2
  skip
  refine awl_hw (wt_none rfl) (st_box rfl rfl (by first | rfl | assumption) (by first | assumption | (simp only [cellsA]; rfl)) rfl rfl ?_)
  intro g3
  repeat (first | refine awp_seq ?_ | refine awp_region_lit rfl ?_ | (show AWL _ _ _ (⟨_, .assign _, _, _, _, _⟩ :: _) _ _ _; refine awl_pw (wt_none rfl) (pv_assign rfl rfl) rfl rfl ?_) | (show AWL _ _ _ (⟨_, .load _ _, _, _, _, _⟩ :: _) _ _ _; refine awl_lw (wt_none rfl) (lv_cla T0 rfl rfl rfl (by solve | repeat' constructor) rfl) rfl rfl rfl ?_) | refine awl_nil ?_)
  refine awl_hw (wt_none rfl) (st_call T0 (check_p cp b hl) rfl rfl rfl rfl (by first | exact callee_lit | exact callee_v | exact callee_fn | assumption) (by solve | repeat' constructor) (by first | rfl | assumption) rfl ?_)
  rintro _ rfl
  by_cases hf : faultN b = 0
  case neg =>
    have d1 : decide (faultN b ≠ 0) = true := decide_eq_true hf
    repeat (first | refine awp_seq ?_ | refine awp_block ?_ | refine awp_region_lit rfl ?_ | refine awp_ret ?_ | refine then_n ?_ | refine then_r ?_ | refine blk_r ?_ | refine awp_cond_t rfl (by first | rfl | assumption | exact dT (by omega)) ?_ | (show AWL _ _ _ (⟨_, .move _, _, _, _, _⟩ :: _) _ _ _; refine awl_pw (wt_none rfl) (pv_move rfl rfl) rfl rfl ?_) | (show AWL _ _ _ (⟨_, .assign _, _, _, _, _⟩ :: _) _ _ _; refine awl_pw (wt_none rfl) (pv_assign rfl rfl) rfl rfl ?_) | (show AWL _ _ _ (⟨_, .binOp .neq _ _ _ _, _, _, _, _⟩ :: _) _ _ _; refine awl_pw (wt_none rfl) (pv_neq rfl rfl rfl) rfl rfl ?_) | refine awl_nil ?_)
    refine body_p (.cons rfl (.cons rfl .nil)) ?_
    rw [if_pos hf]; rfl
  rw [if_neg (by simpa using hf), hf]
  have hv := vbook hf
  repeat (first | refine awp_seq ?_ | refine awp_block ?_ | refine awp_region_lit rfl ?_ | refine then_n ?_ | refine awp_cond_f rfl (by first | rfl | assumption | exact dF (by omega)) ?_ | (show AWL _ _ _ (⟨_, .move _, _, _, _, _⟩ :: _) _ _ _; refine awl_pw (wt_none rfl) (pv_move rfl rfl) rfl rfl ?_) | (show AWL _ _ _ (⟨_, .assign _, _, _, _, _⟩ :: _) _ _ _; refine awl_pw (wt_none rfl) (pv_assign rfl rfl) rfl rfl ?_) | (show AWL _ _ _ (⟨_, .load _ _, _, _, _, _⟩ :: _) _ _ _; refine awl_lw (wt_none rfl) (lv_cl1 T0 rfl rfl rfl (by solve | repeat' constructor) (by first | rfl | assumption)) rfl rfl rfl ?_) | (show AWL _ _ _ (⟨_, .binOp .neq _ _ _ _, _, _, _, _⟩ :: _) _ _ _; refine awl_pw (wt_none rfl) (pv_neq rfl rfl rfl) rfl rfl ?_) | refine awl_nil ?_)
  cases hp : inB p 1 1000
  · refine awl_hw (wt_none rfl) (st_call T0 (settled_q hp) rfl rfl rfl rfl (by first | exact callee_lit | exact callee_v | exact callee_fn | assumption) (by solve | repeat' constructor) (by first | rfl | assumption) rfl ?_)
    rintro _ rfl
    repeat (first | refine awp_seq ?_ | refine awp_region_lit rfl ?_ | refine awp_ret ?_ | refine then_n ?_ | refine then_r ?_ | refine blk_r ?_ | refine awp_cond_t rfl (by first | rfl | assumption | exact dT (by omega)) ?_ | (show AWL _ _ _ (⟨_, .assign _, _, _, _, _⟩ :: _) _ _ _; refine awl_pw (wt_none rfl) (pv_assign rfl rfl) rfl rfl ?_) | (show AWL _ _ _ (⟨_, .unOp .not _ _, _, _, _, _⟩ :: _) _ _ _; refine awl_pw (wt_none rfl) (pv_not rfl rfl) rfl rfl ?_) | refine awl_nil ?_)
    exact body_p (.cons rfl (.cons rfl .nil)) rfl
  have hp' := inB_iff.1 hp
  refine awl_hw (wt_none rfl) (st_call T0 (settled_q hp) rfl rfl rfl rfl (by first | exact callee_lit | exact callee_v | exact callee_fn | assumption) (by solve | repeat' constructor) (by first | rfl | assumption) rfl ?_)
  rintro _ rfl
  repeat (first | refine awp_seq ?_ | refine awp_region_lit rfl ?_ | refine awp_skip ?_ | refine then_n ?_ | refine awp_cond_f rfl (by first | rfl | assumption | exact dF (by omega)) ?_ | (show AWL _ _ _ (⟨_, .assign _, _, _, _, _⟩ :: _) _ _ _; refine awl_pw (wt_none rfl) (pv_assign rfl rfl) rfl rfl ?_) | (show AWL _ _ _ (⟨_, .load _ _, _, _, _, _⟩ :: _) _ _ _; refine awl_lw (wt_none rfl) (lv_cla T0 rfl rfl rfl (by solve | repeat' constructor) rfl) rfl rfl rfl ?_) | (show AWL _ _ _ (⟨_, .unOp .not _ _, _, _, _, _⟩ :: _) _ _ _; refine awl_pw (wt_none rfl) (pv_not rfl rfl) rfl rfl ?_) | refine awl_nil ?_)
  refine awl_pw (wt_none rfl) (pv_makeFunc_v (fs := []) (cs := [ptrV g2, ptrV g3]) rfl rfl rfl) rfl rfl ?_
  refine awl_hw (wt_none rfl) (st_acall T0 (acall_unpack (sums_p (o := packOb [.cl g2 33 [intA b.houses, .t (consT cp b.cons)], .cl g3 3 [intA p]]) (f := fun i => -(payF b p i)) (fsN := []) (csN := [.v (ptrV g2), .v (ptrV g3)]) (gN := 58) (fv := .v (.func (.func 58) #[] #[ptrV g2, ptrV g3])) cp b hv (callee_v (a := []) (b := [ptrV g2, ptrV g3])) rfl (fun i hi => by have := pay_bd (hv.num i hi) (hv.price i hi) hp'; show _ ≤ -(_ * _) ∧ -(_ * _) ≤ _; omega) (fun i hi => acall_pack (money1_p cp b p g2 g3 i hi hv hp')))) rfl rfl rfl rfl (by first | exact callee_lit | exact callee_v | exact callee_fn | assumption) (by solve | repeat' constructor) (by first | rfl | assumption) rfl (by first | ((repeat' (first | exact SubH.refl _ | apply SubH.cons | exact Pick.here | apply Pick.there)); all_goals fail) | fail) (fun _ _ => trivial) ?_)
  rintro r h ⟨rfl, rfl⟩
  repeat (first | refine awp_ret ?_ | (show AWL _ _ _ (⟨_, .assign _, _, _, _, _⟩ :: _) _ _ _; refine awl_pw (wt_none rfl) (pv_assign rfl rfl) rfl rfl ?_) | refine awl_nil ?_)
  exact body_p (.cons rfl (.cons rfl .nil)) rfl
end Go.Proofs.Ytilhflfbbfeakaa
end
section
namespace Go.Tl
open Go Go.RowKit
end Go.Tl
namespace Go.Proofs.Ytilhflfbbfeakaa
open Go Go.RowKit Go.Tl
set_option linter.unusedVariables false
set_option linter.unusedSimpArgs false
set_option maxRecDepth 100000
set_option maxHeartbeats 4000000
theorem conOne (cs : List ConD) : ∀ k, k < cs.length → ∀ u ∈ conL (cs.getD k default), oneA (AV.ofTr u) = true := fun k hk u hu => by
  simp only [conL, List.mem_cons, List.not_mem_nil, or_false] at hu
  rcases hu with rfl | rfl | rfl | rfl <;> rfl
theorem conRows_range (l : List ConD) : ((List.range l.length).map fun k => (conL (l.getD k default)).map AV.ofTr) = l.map conRow := by
  refine List.ext_getElem (by simp) fun k h1 h2 => ?_
  simp at h1 h2
  simp [List.getD_eq_getElem?_getD, h1, conL, conRow, AV.ofTr]
theorem conRow_at {l : List ConD} {k : Nat} (h : k < l.length) : (l.map conRow).getD k [] = [intA (l.getD k default).frm, intA (l.getD k default).to, intA (l.getD k default).num, intA (l.getD k default).price] := by
  simp [List.getD_eq_getElem?_getD, h, conRow]
structure YOk (b Y : BookD) : Prop where
  houses : Y.houses = b.houses
  len : Y.cons.length = b.cons.length
  valid : VBook Y
  le : ∀ F : Nat → Int, provF b F b.cons.length ≤ provF Y F Y.cons.length
theorem tree_at {l : List ConD} : ∀ k, k < l.length → (l.map conRow).getD k [] = ((fun q => conL (l.getD q default)) k).map AV.ofTr := rows_tree l conRow conL (fun _ => rfl)
attribute [local irreducible] AWP AWL AOp PV LV AWT AWE
section
variable {b : BookD} {g4 g5 g9 g10 n k : Nat} {u2 u3 u11 : AV} {more : ConD} {x y z : Ent} {w : Int}
end
end Go.Proofs.Ytilhflfbbfeakaa
end
section
namespace Go.Proofs.Ytilhflfbbfeakaa
open Go Go.RowKit Go.Tl
set_option linter.unusedVariables false
set_option linter.unusedSimpArgs false
set_option maxRecDepth 100000
set_option maxHeartbeats 4000000
/-- the contracts of a ring get a price -/
def hitC (b : BookD) (r : RingD) (w : Int) (j q : Nat) : ConD := if 0 < ringN r j q then ⟨(b.cons.getD q default).frm, (b.cons.getD q default).to, (b.cons.getD q default).num, w⟩ else b.cons.getD q default
def costB (b : BookD) (r : RingD) (w : Int) (j : Nat) : BookD := ⟨b.houses, (List.range b.cons.length).map (hitC b r w j)⟩
theorem cost_len (b : BookD) (r : RingD) (w : Int) (j : Nat) : (costB b r w j).cons.length = b.cons.length := by simp [costB]
theorem cost_at {b : BookD} {r : RingD} {w : Int} {j i : Nat} (hi : i < b.cons.length) : (costB b r w j).cons.getD i default = hitC b r w j i := by
  simp [costB, List.getD_eq_getElem?_getD, hi]
theorem cost_zero (b : BookD) (r : RingD) (w : Int) : (costB b r w 0).cons = b.cons := by
  refine List.ext_getElem (by simp [costB]) fun i h1 h2 => ?_
  simp [costB, hitC, ringN, List.getD_eq_getElem?_getD, h2]
theorem cost_set {b : BookD} {r : RingD} {w : Int} {j i : Nat} (hi : i < b.cons.length) (e : r.cons.getD j 0 = (i : Int)) (h0 : 0 < r.amount) (hz : ringN r j i = 0) :
    ((costB b r w j).cons.map conRow).set i (spA (((costB b r w j).cons.map conRow).getD i []) 3 [intA w]) = (costB b r w (j + 1)).cons.map conRow := by
  have hl := cost_len b r w j
  rw [conRow_at (by omega), cost_at hi]
  have hh : hitC b r w j i = b.cons.getD i default := by unfold hitC; rw [if_neg (by omega)]
  rw [hh]
  refine List.ext_getElem (by simp [costB]) fun q h1 h2 => ?_
  simp [costB] at h1 h2
  have hs : ringN r (j + 1) q = ringN r j q + if (i : Int) = (q : Int) then r.amount else 0 := by simp only [ringN]; rw [e]
  by_cases c : i = q
  · subst c
    rw [if_pos rfl] at hs
    simp [costB, hitC, conRow, spA]
    rw [if_pos (by omega)]
    exact ⟨rfl, rfl, rfl, rfl⟩
  · rw [if_neg (by omega), Int.add_zero] at hs
    simp [costB, hitC, conRow, List.getElem_set, c, hs]
theorem hit_ends (b : BookD) (r : RingD) (w : Int) (j q : Nat) : (hitC b r w j q).frm = (b.cons.getD q default).frm ∧ (hitC b r w j q).to = (b.cons.getD q default).to ∧ (hitC b r w j q).num = (b.cons.getD q default).num := by
  unfold hitC; split <;> exact ⟨rfl, rfl, rfl⟩
theorem cost_valid {b : BookD} (hv : VBook b) {r : RingD} {w : Int} (hw : 1 ≤ w ∧ w ≤ 1000) (j : Nat) : VBook (costB b r w j) := by
  have hl := cost_len b r w j
  refine ⟨hv.houses, by rw [hl]; exact hv.len, fun i hi => ?_, fun i hi => ?_, fun i hi => ?_, fun i hi => ?_, fun i hi => ?_⟩ <;> rw [hl] at hi <;> rw [cost_at hi]
  · rw [(hit_ends b r w j i).1]; exact hv.frm i hi
  · rw [(hit_ends b r w j i).2.1]; exact hv.to i hi
  · rw [(hit_ends b r w j i).1, (hit_ends b r w j i).2.1]; exact hv.ne i hi
  · rw [(hit_ends b r w j i).2.2]; exact hv.num i hi
  · unfold hitC; split
    · exact hw
    · exact hv.price i hi
/-- a ring's contracts are different -/
theorem ring_diff {b : BookD} {r : RingD} (hr : isRing b r) : ∀ i j, i < r.cons.length → j < i → r.cons.getD j 0 ≠ r.cons.getD i 0 := fun i j hi hj e => hr.2.2.2.2 i j hi hj (by unfold cAt; rw [e])
theorem ring_fresh {b : BookD} {r : RingD} (hr : isRing b r) {i j : Nat} (hj : j < r.cons.length) (e : r.cons.getD j 0 = (i : Int)) : ringN r j i = 0 := by
  rcases ringN_one (r := r) (h := i) j (by omega) (ring_diff hr) with h | ⟨_, k, hk, e2⟩
  · exact h
  · exact absurd (e2.trans e.symm) (ring_diff hr j k hj hk)
/-- sums over what is left -/
theorem left_accV {cs : List ConD} {f : Nat → Int} {V : ConD → Int} (h0 : ∀ c : ConD, c.num = 0 → V c = 0) (h : Nat) : ∀ k, (∀ i, i < k → f i ≤ (cs.getD i default).num) → accN (lstC cs f k) (fun i => V ((lstC cs f k).getD i default)) (lstC cs f k).length h = accN cs (fun i => V ⟨(cs.getD i default).frm, (cs.getD i default).to, (cs.getD i default).num - f i, (cs.getD i default).price⟩) k h
  | 0, _ => rfl
  | k + 1, hk => by
    have ih := left_accV (cs := cs) (f := f) h0 h k (fun i hi => hk i (by omega))
    have h1 := hk k (Nat.lt_succ_self _)
    by_cases c : 0 < (cs.getD k default).num - f k
    · have e : lstC cs f (k + 1) = lstC cs f k ++ [⟨(cs.getD k default).frm, (cs.getD k default).to, (cs.getD k default).num - f k, (cs.getD k default).price⟩] := by simp only [lstC]; rw [if_pos c]
      rw [e]
      have hl : (lstC cs f k ++ [(⟨(cs.getD k default).frm, (cs.getD k default).to, (cs.getD k default).num - f k, (cs.getD k default).price⟩ : ConD)]).length = (lstC cs f k).length + 1 := by simp
      rw [hl]
      have hat : ∀ i, i < (lstC cs f k).length → (lstC cs f k ++ [(⟨(cs.getD k default).frm, (cs.getD k default).to, (cs.getD k default).num - f k, (cs.getD k default).price⟩ : ConD)]).getD i default = (lstC cs f k).getD i default := fun i hi => by simp [List.getD_eq_getElem?_getD, List.getElem?_append, hi]
      have hlast : (lstC cs f k ++ [(⟨(cs.getD k default).frm, (cs.getD k default).to, (cs.getD k default).num - f k, (cs.getD k default).price⟩ : ConD)]).getD (lstC cs f k).length default = ⟨(cs.getD k default).frm, (cs.getD k default).to, (cs.getD k default).num - f k, (cs.getD k default).price⟩ := by simp [List.getD_eq_getElem?_getD]
      simp only [accN]
      rw [acc_congr2 (cs := lstC cs f k ++ [(⟨(cs.getD k default).frm, (cs.getD k default).to, (cs.getD k default).num - f k, (cs.getD k default).price⟩ : ConD)]) (ds := lstC cs f k) (g := fun i => V ((lstC cs f k).getD i default)) (fun i hi => ⟨hat i hi, by show V _ = V _; rw [hat i hi]⟩), ih, hlast]
    · have e : lstC cs f (k + 1) = lstC cs f k := by simp only [lstC]; rw [if_neg c, List.append_nil]
      rw [e, ih]
      simp only [accN]
      have hz : V ⟨(cs.getD k default).frm, (cs.getD k default).to, (cs.getD k default).num - f k, (cs.getD k default).price⟩ = 0 := h0 _ (by show (cs.getD k default).num - f k = 0; omega)
      rw [hz]
      simp
theorem acc_mulc {cs : List ConD} (x : Int) (f : Nat → Int) (h : Nat) : ∀ k, accN cs (fun i => x * f i) k h = x * accN cs f k h
  | 0 => by show (0 : Int) = x * 0; rw [Int.mul_zero]
  | k + 1 => by
    simp only [accN]
    rw [acc_mulc x f h k, Int.mul_sub, Int.mul_add]
    congr 1
    · congr 1; split <;> simp
    · split <;> simp
theorem acc_ends {cs ds : List ConD} {f : Nat → Int} {h : Nat} : ∀ {k : Nat}, (∀ i, i < k → (cs.getD i default).frm = (ds.getD i default).frm ∧ (cs.getD i default).to = (ds.getD i default).to) → accN cs f k h = accN ds f k h
  | 0, _ => rfl
  | k + 1, hk => by
    simp only [accN]
    rw [acc_ends (k := k) (fun i hi => hk i (by omega)), (hk k (Nat.lt_succ_self _)).1, (hk k (Nat.lt_succ_self _)).2]
/-- a ring of one price changes nobody's money -/
theorem cost_net {b : BookD} (hv : VBook b) {r : RingD} (hr : isRing b r) (hle : ∀ i, i < b.cons.length → ringN r r.cons.length i ≤ numF b i) (w p : Int) {f : Nat → Int} (hf : ∀ i, i < b.cons.length → f i = ringN r r.cons.length i) :
    netL (leastB (costB b r w r.cons.length) f) (fun i => -(payF (leastB (costB b r w r.cons.length) f) p i)) = netL (costB b r w r.cons.length) (fun i => -(payF (costB b r w r.cons.length) p i)) := by
  have hl := cost_len b r w r.cons.length
  refine List.map_congr_left fun h _ => ?_
  have h1 := left_accV (cs := (costB b r w r.cons.length).cons) (f := f) (V := fun c => -(c.num * (c.price - p))) (fun c hc => by show -(c.num * _) = 0; rw [hc]; simp) h (costB b r w r.cons.length).cons.length (fun i hi => by
    rw [cost_at (by omega), (hit_ends b r w _ i).2.2, hf i (by omega)]; exact hle i (by omega))
  refine Eq.trans h1 ?_
  have h3 : accN (costB b r w r.cons.length).cons (fun i => (w - p) * ringN r r.cons.length i) (costB b r w r.cons.length).cons.length h = 0 := by
    rw [acc_mulc, acc_ends (ds := b.cons) (fun i hi => by rw [cost_at (by omega)]; exact ⟨(hit_ends b r w _ i).1, (hit_ends b r w _ i).2.1⟩), hl, ring_zero hr h, Int.mul_zero]
  have h4 := acc_add (cs := (costB b r w r.cons.length).cons) (f := fun i => -(payF (costB b r w r.cons.length) p i)) (g := fun i => (w - p) * ringN r r.cons.length i) h (costB b r w r.cons.length).cons.length
  rw [h3, Int.add_zero] at h4
  rw [← h4]
  refine accN_congr _ _ fun i hi => ?_
  rw [hf i (by omega)]
  show -((((costB b r w r.cons.length).cons.getD i default).num - ringN r r.cons.length i) * (((costB b r w r.cons.length).cons.getD i default).price - p)) = -((((costB b r w r.cons.length).cons.getD i default).num) * ((((costB b r w r.cons.length).cons.getD i default).price) - p)) + (w - p) * ringN r r.cons.length i
  rw [cost_at (show i < b.cons.length by omega)]
  have hn : 0 ≤ ringN r r.cons.length i := ringN_nn (by have := hr.2.1; omega) i _
  by_cases c : 0 < ringN r r.cons.length i
  · have e1 : (hitC b r w r.cons.length i).price = w := by unfold hitC; rw [if_pos c]
    rw [e1, Int.sub_mul, Int.mul_comm (w - p)]
    omega
  · have e2 : ringN r r.cons.length i = 0 := by omega
    rw [e2, Int.sub_zero, Int.mul_zero, Int.add_zero]
attribute [local irreducible] AWP AWL AOp PV LV AWT AWE
section
variable {b : BookD} {g4 : Nat} {u2 u3 u9 : AV}
theorem co_6 (hl : b.cons.length ≤ 1000) {ops : Array Oper} (h : regF Try.f12 6 = some ops) :
    AWP Try.prog Try.f12.ntmps none (.region 6 ops true) (cutQ (fun s h => ∃ g10 a c, (0 < b.cons.length → ∃ ga, a = some ⟨ga, 0, none⟩) ∧ s = [(10, .v (ptrV g10)), (2, u2), (3, u3), (4, .v (ptrV g4)), (9, u9)] ∧ h = [refB g4 b, .cl g10 24 [intA b.houses, .v (.slice a b.cons.length c)], .rw (.slice a b.cons.length c) 67 4 (b.cons.map conRow)]))
      [(2, u2), (3, u3), (4, .v (ptrV g4)), (9, u9)] [refB g4 b] := by
  cases h
  refine awp_tree T0 [(0, 0), (1, 1), (3, 0), (4, 1), (2, 2), (5, 2), (6, 0), (7, 2), (8, 3)] (.op 0 0 (.op 1 1 (.op 3 0 (.op 4 1 (.fork 2 (.fork 5 (.op 6 0 (.op 7 2 (.op 8 3 .stop))) 7 (.op 5 2 (.op 6 0 (.op 8 3 .stop)))) 7 (.op 2 2 (.op 5 2 (.op 6 0 (.op 8 3 .stop))))))))) [.cl g4 _ _] rfl (by kernel_rfl) (by solve | repeat' constructor) ?_
  refine awt_po rfl (wt_none rfl) (pv_fa T0 rfl rfl rfl (by simp; rfl)) rfl rfl ?_
  refine awt_lo rfl (wt_none rfl) (lv_cl1 T0 rfl rfl rfl (by solve | repeat' constructor) (by first | rfl | assumption)) rfl rfl rfl ?_
  refine awt_po rfl (wt_none rfl) (pv_fa T0 rfl rfl rfl (by simp; rfl)) rfl rfl ?_
  refine awt_lo rfl (wt_none rfl) (lv_cl1 T0 rfl rfl rfl (by solve | repeat' constructor) (by first | rfl | assumption)) rfl rfl rfl ?_
  refine awt_fork ?_ ?_
  · skip
    refine awt_h (hm := []) rfl (wt_none rfl) (by solve | repeat' constructor) rfl (st_bsl T0 rfl rfl rfl rfl rfl (by solve | repeat' constructor) rfl rfl rfl rfl (by simp only [List.map_cons, List.map_nil, cellsA]; rfl) ?_)
    intro g32
    refine awt_fork ?_ ?_
    · skip
      refine awt_h (hm := _) rfl (wt_none rfl) ?sub rfl (st_appt_o T0 rfl rfl rfl rfl rfl rfl rfl rfl rfl (by solve | repeat' constructor) (by first | exact conOne _ | (intro k hk u hu; simp at hu; subst hu; rfl)) (by rfl) (by first | omega | (simp; omega)) rfl ?_)
      case sub => exact (by solve | repeat' constructor)
      intro a35 c35 p35
      refine awt_n1 rfl (wt_none rfl) (pv_build T0 rfl rfl rfl (by simp only [Value.cells, List.toList_toArray, List.map_cons, List.map_nil]; rfl) (by first | ((repeat' (first | exact BParts.nil | apply BParts.cons | rfl)); all_goals fail) | fail) (by first | ((repeat' (first | exact FillA.nil | exact Sp.done | apply FillA.cons | apply Sp.put | apply Sp.skip | (simp only [cellsA]; rfl) | rfl)); all_goals fail) | fail)) rfl rfl rfl ?_
      refine awt_h (hm := []) rfl (wt_none rfl) (by solve | repeat' constructor) rfl (st_alloc T0 rfl rfl rfl rfl (by simp only [Value.cells, List.toList_toArray, List.map_cons, List.map_nil]; rfl) ?_)
      intro g10
      refine awt_s (md := fun _ => True) rfl (wt_none rfl) (st_store T0 rfl rfl rfl rfl rfl (by first | assumption | (simp only [cellsA]; rfl)) rfl rfl rfl (by solve | repeat' constructor) (by solve | repeat' constructor) trivial ?_)
      refine awe_end ?_
      simp only [List.nil_append, List.length_nil, Nat.zero_add, conRows_range]
      exact cut_n ⟨g10, a35, c35, p35, rfl, rfl⟩ (by first | ((repeat' (first | exact True.intro | refine ⟨rfl, ?_⟩)); all_goals fail) | fail) (by solve | repeat' constructor)
    · skip
      refine awt_h (hm := []) rfl (wt_none rfl) (by solve | repeat' constructor) rfl (st_alloc T0 rfl rfl rfl rfl (by simp only [Value.cells, List.toList_toArray, List.map_cons, List.map_nil]; rfl) ?_)
      intro g10
      refine awt_h (hm := _) rfl (wt_none rfl) ?sub rfl (st_appt_o T0 rfl rfl rfl rfl rfl rfl rfl rfl rfl (by solve | repeat' constructor) (by first | exact conOne _ | (intro k hk u hu; simp at hu; subst hu; rfl)) (by rfl) (by first | omega | (simp; omega)) rfl ?_)
      case sub => exact (by solve | repeat' constructor)
      intro a35 c35 p35
      refine awt_n1 rfl (wt_none rfl) (pv_build T0 rfl rfl rfl (by simp only [Value.cells, List.toList_toArray, List.map_cons, List.map_nil]; rfl) (by first | ((repeat' (first | exact BParts.nil | apply BParts.cons | rfl)); all_goals fail) | fail) (by first | ((repeat' (first | exact FillA.nil | exact Sp.done | apply FillA.cons | apply Sp.put | apply Sp.skip | (simp only [cellsA]; rfl) | rfl)); all_goals fail) | fail)) rfl rfl rfl ?_
      refine awt_s (md := fun _ => True) rfl (wt_none rfl) (st_store T0 rfl rfl rfl rfl rfl (by first | assumption | (simp only [cellsA]; rfl)) rfl rfl rfl (by solve | repeat' constructor) (by solve | repeat' constructor) trivial ?_)
      refine awe_end ?_
      simp only [List.nil_append, List.length_nil, Nat.zero_add, conRows_range]
      exact cut_n ⟨g10, a35, c35, p35, rfl, rfl⟩ (by first | ((repeat' (first | exact True.intro | refine ⟨rfl, ?_⟩)); all_goals fail) | fail) (by solve | repeat' constructor)
  · skip
    refine awt_h (hm := []) rfl (wt_none rfl) (by solve | repeat' constructor) rfl (st_alloc T0 rfl rfl rfl rfl (by simp only [Value.cells, List.toList_toArray, List.map_cons, List.map_nil]; rfl) ?_)
    intro g10
    refine awt_h (hm := []) rfl (wt_none rfl) (by solve | repeat' constructor) rfl (st_bsl T0 rfl rfl rfl rfl rfl (by solve | repeat' constructor) rfl rfl rfl rfl (by simp only [List.map_cons, List.map_nil, cellsA]; rfl) ?_)
    intro g32
    refine awt_h (hm := _) rfl (wt_none rfl) ?sub rfl (st_appt_o T0 rfl rfl rfl rfl rfl rfl rfl rfl rfl (by solve | repeat' constructor) (by first | exact conOne _ | (intro k hk u hu; simp at hu; subst hu; rfl)) (by rfl) (by first | omega | (simp; omega)) rfl ?_)
    case sub => exact (by solve | repeat' constructor)
    intro a35 c35 p35
    refine awt_n1 rfl (wt_none rfl) (pv_build T0 rfl rfl rfl (by simp only [Value.cells, List.toList_toArray, List.map_cons, List.map_nil]; rfl) (by first | ((repeat' (first | exact BParts.nil | apply BParts.cons | rfl)); all_goals fail) | fail) (by first | ((repeat' (first | exact FillA.nil | exact Sp.done | apply FillA.cons | apply Sp.put | apply Sp.skip | (simp only [cellsA]; rfl) | rfl)); all_goals fail) | fail)) rfl rfl rfl ?_
    refine awt_s (md := fun _ => True) rfl (wt_none rfl) (st_store T0 rfl rfl rfl rfl rfl (by first | assumption | (simp only [cellsA]; rfl)) rfl rfl rfl (by solve | repeat' constructor) (by solve | repeat' constructor) trivial ?_)
    refine awe_end ?_
    simp only [List.nil_append, List.length_nil, Nat.zero_add, conRows_range]
    exact cut_n ⟨g10, a35, c35, p35, rfl, rfl⟩ (by first | ((repeat' (first | exact True.intro | refine ⟨rfl, ?_⟩)); all_goals fail) | fail) (by solve | repeat' constructor)
end
end Go.Proofs.Ytilhflfbbfeakaa
end
