/- The reference's Fills (Try.func31): its walk. -/
import Derived.Test.YteaoclpikdmkiaaOw
import Derived.Test.YteaoclpikdmkiaaOk
import Derived.Test.YteaoclpikdmkiaaTlw
import Derived.Test.YteaoclpikdmkiaaTy
import Derived.Test.YteaoclpikdmkiaaTz
import Derived.Test.YteaoclpikdmkiaaTv
namespace Go.Proofs.Yteaoclpikdmkiaa
open Go Go.RowKit Go.Tl
set_option linter.unusedVariables false
set_option linter.unusedSimpArgs false
set_option maxRecDepth 100000
set_option maxHeartbeats 4000000
theorem gRows_snoc {f f' : Nat → Int × Int} {k : Nat} {x : Int} (h : ∀ q, q < k → f' q = f q) (hk : f' k = (x, x)) : gRows f k ++ [[intA x, intA x]] = gRows f' (k + 1) := by
  unfold gRows
  rw [List.range_succ, List.map_append]
  congr 1
  · exact List.map_congr_left fun q hq => by rw [h q (List.mem_range.1 hq)]
  · simp [hk, rngRow]
theorem gRows_congr {f f' : Nat → Int × Int} {n : Nat} (h : ∀ q, q < n → f' q = f q) : gRows f n = gRows f' n := List.map_congr_left fun q hq => by rw [h q (List.mem_range.1 hq)]
attribute [local irreducible] AWP AWL AOp PV LV AWT AWE
section
variable {g1 gF gM n cF cM k : Nat} {F F' M M' : Nat → Int × Int} {x : Int} {u6 u7 u9 u10 e1 : AV} {V : Value} {rM : List (List AV)}
theorem ox_12 (hk : k < n) (hn : n ≤ 6) (hF : ∀ q, q < n → F' q = if q = k then (min (F k).1 x, max (F k).2 x) else F q) {ops : Array Oper} (h : regF Try.f31 12 = some ops) :
    AWP Try.prog Try.f31.ntmps none (.region 12 ops true) (cutQ (fun s h => s = [(1, .v (ptrV g1)), (4, .v (.slice (some ⟨gF, 0, none⟩) n cF)), (5, .v V), (6, u6), (7, u7), (8, intA k), (10, u10)] ∧ h = [.rw (.slice (some ⟨gF, 0, none⟩) n cF) 56 2 (gRows F' n), .rw V 56 2 rM, .cl g1 24 [e1]]))
      [(1, .v (ptrV g1)), (4, .v (.slice (some ⟨gF, 0, none⟩) n cF)), (5, .v V), (6, u6), (7, u7), (8, intA k), (9, intA x), (10, u10)] [.rw (.slice (some ⟨gF, 0, none⟩) n cF) 56 2 (gRows F n), .rw V 56 2 rM, .cl g1 24 [e1]] := by
  cases h
  have r1 : ((gRows F n).getD k [])[0]? = some (intA (F k).1) := by rw [gRows_at hk]; rfl
  have r2 : ((gRows F n).getD k [])[1]? = some (intA (F k).2) := by rw [gRows_at hk]; rfl
  have r3 := gRows_len F n
  have s1 := gRows_set hk hF
  refine awp_tree T0 [(0, 0), (1, 0), (2, 0), (3, 0), (4, 0), (5, 0), (6, 1), (7, 0), (8, 0), (9, 0), (10, 0), (11, 0), (12, 0), (13, 1), (14, 0), (15, 0), (16, 0), (17, 0), (18, 3)] (.op 0 0 (.op 1 0 (.op 2 0 (.op 3 0 (.op 4 0 (.op 5 0 (.op 6 1 (.op 7 0 (.op 8 0 (.op 9 0 (.op 10 0 (.op 11 0 (.op 12 0 (.op 13 1 (.op 14 0 (.op 15 0 (.op 16 0 (.op 17 0 (.op 18 3 .stop))))))))))))))))))) [.rw (.slice (some ⟨gF, 0, none⟩) n cF) _ _ _] rfl (by kernel_rfl) (by solve | repeat' constructor) ?_
  refine awt_po rfl (wt_none rfl) (pv_move rfl rfl) rfl rfl ?_
  refine awt_po rfl (wt_none rfl) (pv_move rfl rfl) rfl rfl ?_
  refine awt_po rfl (wt_none rfl) (pv_move rfl rfl) rfl rfl ?_
  refine awt_po rfl (wt_none rfl) (pv_move rfl rfl) rfl rfl ?_
  refine awt_po rfl (wt_none rfl) (pv_ix_own T0 rfl rfl rfl rfl (by omega) (by first | exact (rfl : Int.toNat 0 = 0) | exact Int.toNat_natCast _ | rfl)) rfl rfl ?_
  refine awt_po rfl (wt_none rfl) (pv_fa_rp T0 rfl rfl rfl (by simp; rfl)) rfl rfl ?_
  refine awt_lo rfl (wt_none rfl) (lv_rp T0 rfl rfl rfl (by solve | repeat' constructor) (by omega) (by decide) r1) rfl rfl rfl ?_
  refine awt_po rfl (wt_none rfl) (pv_move rfl rfl) rfl rfl ?_
  refine awt_po rfl (wt_none rfl) (pv_min2 rfl rfl rfl) rfl rfl ?_
  refine awt_po rfl (wt_none rfl) (pv_move rfl rfl) rfl rfl ?_
  refine awt_po rfl (wt_none rfl) (pv_move rfl rfl) rfl rfl ?_
  refine awt_po rfl (wt_none rfl) (pv_ix_own T0 rfl rfl rfl rfl (by omega) (by first | exact (rfl : Int.toNat 0 = 0) | exact Int.toNat_natCast _ | rfl)) rfl rfl ?_
  refine awt_po rfl (wt_none rfl) (pv_fa_rp T0 rfl rfl rfl (by simp; rfl)) rfl rfl ?_
  refine awt_lo rfl (wt_none rfl) (lv_rp T0 rfl rfl rfl (by solve | repeat' constructor) (by omega) (by decide) r2) rfl rfl rfl ?_
  refine awt_po rfl (wt_none rfl) (pv_move rfl rfl) rfl rfl ?_
  refine awt_po rfl (wt_none rfl) (pv_max2 rfl rfl rfl) rfl rfl ?_
  refine awt_po rfl (wt_none rfl) (pv_build T0 rfl rfl rfl (by simp only [Value.cells, List.toList_toArray, List.map_cons, List.map_nil]; rfl) (by first | ((repeat' (first | exact BParts.nil | apply BParts.cons | rfl)); all_goals fail) | fail) (by first | ((repeat' (first | exact FillA.nil | exact Sp.done | apply FillA.cons | apply Sp.put | apply Sp.skip | (simp only [cellsA]; rfl) | rfl)); all_goals fail) | fail)) rfl rfl ?_
  refine awt_po rfl (wt_none rfl) (pv_ix_own T0 rfl rfl rfl rfl (by omega) (by first | exact (rfl : Int.toNat 0 = 0) | exact Int.toNat_natCast _ | rfl)) rfl rfl ?_
  refine awt_s (md := fun _ => True) rfl (wt_none rfl) (aop_store_rp T0 rfl rfl rfl rfl rfl rfl rfl rfl (by solve | repeat' constructor) (by first | omega | (simp; omega)) (by omega) rfl trivial ?_)
  refine awe_end ?_
  simp only [cellsA]
  rw [s1]
  exact cut_n ⟨rfl, rfl⟩ (by first | ((repeat' (first | exact True.intro | refine ⟨rfl, ?_⟩)); all_goals fail) | fail) (by solve | repeat' constructor)
theorem ox_13 (hk : k < n) (hn : n ≤ 6) (hF : ∀ q, q < n → F' q = if q = k then (min (F k).1 x, max (F k).2 x) else F q) {ops : Array Oper} (h : regF Try.f31 13 = some ops) :
    AWP Try.prog Try.f31.ntmps none (.region 13 ops true) (cutQ (fun s h => s = [(1, .v (ptrV g1)), (5, .v (.slice (some ⟨gF, 0, none⟩) n cF)), (4, .v V), (6, u6), (7, u7), (8, intA k)] ∧ h = [.rw (.slice (some ⟨gF, 0, none⟩) n cF) 56 2 (gRows F' n), .rw V 56 2 rM, .cl g1 24 [e1]]))
      [(1, .v (ptrV g1)), (5, .v (.slice (some ⟨gF, 0, none⟩) n cF)), (4, .v V), (6, u6), (7, u7), (8, intA k), (10, intA x)] [.rw (.slice (some ⟨gF, 0, none⟩) n cF) 56 2 (gRows F n), .rw V 56 2 rM, .cl g1 24 [e1]] := by
  cases h
  have r1 : ((gRows F n).getD k [])[0]? = some (intA (F k).1) := by rw [gRows_at hk]; rfl
  have r2 : ((gRows F n).getD k [])[1]? = some (intA (F k).2) := by rw [gRows_at hk]; rfl
  have r3 := gRows_len F n
  have s1 := gRows_set hk hF
  refine awp_tree T0 [(0, 0), (1, 0), (2, 0), (3, 0), (4, 0), (5, 0), (6, 1), (7, 0), (8, 0), (9, 0), (10, 0), (11, 0), (12, 0), (13, 1), (14, 0), (15, 0), (16, 0), (17, 0), (18, 3)] (.op 0 0 (.op 1 0 (.op 2 0 (.op 3 0 (.op 4 0 (.op 5 0 (.op 6 1 (.op 7 0 (.op 8 0 (.op 9 0 (.op 10 0 (.op 11 0 (.op 12 0 (.op 13 1 (.op 14 0 (.op 15 0 (.op 16 0 (.op 17 0 (.op 18 3 .stop))))))))))))))))))) [.rw (.slice (some ⟨gF, 0, none⟩) n cF) _ _ _] rfl (by kernel_rfl) (by solve | repeat' constructor) ?_
  refine awt_po rfl (wt_none rfl) (pv_move rfl rfl) rfl rfl ?_
  refine awt_po rfl (wt_none rfl) (pv_move rfl rfl) rfl rfl ?_
  refine awt_po rfl (wt_none rfl) (pv_move rfl rfl) rfl rfl ?_
  refine awt_po rfl (wt_none rfl) (pv_move rfl rfl) rfl rfl ?_
  refine awt_po rfl (wt_none rfl) (pv_ix_own T0 rfl rfl rfl rfl (by omega) (by first | exact (rfl : Int.toNat 0 = 0) | exact Int.toNat_natCast _ | rfl)) rfl rfl ?_
  refine awt_po rfl (wt_none rfl) (pv_fa_rp T0 rfl rfl rfl (by simp; rfl)) rfl rfl ?_
  refine awt_lo rfl (wt_none rfl) (lv_rp T0 rfl rfl rfl (by solve | repeat' constructor) (by omega) (by decide) r1) rfl rfl rfl ?_
  refine awt_po rfl (wt_none rfl) (pv_move rfl rfl) rfl rfl ?_
  refine awt_po rfl (wt_none rfl) (pv_min2 rfl rfl rfl) rfl rfl ?_
  refine awt_po rfl (wt_none rfl) (pv_move rfl rfl) rfl rfl ?_
  refine awt_po rfl (wt_none rfl) (pv_move rfl rfl) rfl rfl ?_
  refine awt_po rfl (wt_none rfl) (pv_ix_own T0 rfl rfl rfl rfl (by omega) (by first | exact (rfl : Int.toNat 0 = 0) | exact Int.toNat_natCast _ | rfl)) rfl rfl ?_
  refine awt_po rfl (wt_none rfl) (pv_fa_rp T0 rfl rfl rfl (by simp; rfl)) rfl rfl ?_
  refine awt_lo rfl (wt_none rfl) (lv_rp T0 rfl rfl rfl (by solve | repeat' constructor) (by omega) (by decide) r2) rfl rfl rfl ?_
  refine awt_po rfl (wt_none rfl) (pv_move rfl rfl) rfl rfl ?_
  refine awt_po rfl (wt_none rfl) (pv_max2 rfl rfl rfl) rfl rfl ?_
  refine awt_po rfl (wt_none rfl) (pv_build T0 rfl rfl rfl (by simp only [Value.cells, List.toList_toArray, List.map_cons, List.map_nil]; rfl) (by first | ((repeat' (first | exact BParts.nil | apply BParts.cons | rfl)); all_goals fail) | fail) (by first | ((repeat' (first | exact FillA.nil | exact Sp.done | apply FillA.cons | apply Sp.put | apply Sp.skip | (simp only [cellsA]; rfl) | rfl)); all_goals fail) | fail)) rfl rfl ?_
  refine awt_po rfl (wt_none rfl) (pv_ix_own T0 rfl rfl rfl rfl (by omega) (by first | exact (rfl : Int.toNat 0 = 0) | exact Int.toNat_natCast _ | rfl)) rfl rfl ?_
  refine awt_s (md := fun _ => True) rfl (wt_none rfl) (aop_store_rp T0 rfl rfl rfl rfl rfl rfl rfl rfl (by solve | repeat' constructor) (by first | omega | (simp; omega)) (by omega) rfl trivial ?_)
  refine awe_end ?_
  simp only [cellsA]
  rw [s1]
  exact cut_n ⟨rfl, rfl⟩ (by first | ((repeat' (first | exact True.intro | refine ⟨rfl, ?_⟩)); all_goals fail) | fail) (by solve | repeat' constructor)
end
/-- what an order fills, and its money, at the numbered truth -/
abbrev fI (p : PostD) (i n : Nat) : Int := (filR (playI p n) i (playI p n).length).1
abbrev mI (p : PostD) (i n : Nat) : Int := (filR (playI p n) i (playI p n).length).2
/-- the bounds within a round -/
def inB2 (g : Nat → Nat → Int) (m k q : Nat) : Int × Int := if q < k then rB (g q) (m + 1) else rB (g q) m
theorem inB2_step (g : Nat → Nat → Int) {m k : Nat} (hm : m ≠ 0) (q : Nat) : inB2 g m (k + 1) q = if q = k then (min (inB2 g m k k).1 (g k m), max (inB2 g m k k).2 (g k m)) else inB2 g m k q := by
  unfold inB2
  by_cases e : q = k
  · subst e
    rw [if_pos (Nat.lt_succ_self _), if_pos rfl, if_neg (Nat.lt_irrefl _)]
    exact if_neg hm
  · rw [if_neg e]
    by_cases c : q < k
    · rw [if_pos c, if_pos (by omega)]
    · rw [if_neg c, if_neg (by omega)]
theorem refFills_p (cp : Bool) (p : PostD) (hv : VPost p) {M : Nat} (hM : (M : Int) = manyN p p.ords.length) : PCall Try.prog 31 [postA cp p] (fun r => r = .tup [.t (rngsT true ((List.range p.ords.length).map fun i => rB (fI p i) M)), .t (rngsT true ((List.range p.ords.length).map fun i => rB (mI p i) M))]) := by
  have hlen := hv.len
  have hmb := manyN_bd hv (Nat.le_refl p.ords.length)
  refine acall_of_awp T0 Try.func31 rfl rfl rfl ?_
  repeat (first | refine awp_seq ?_ | refine awp_region_lit rfl ?_)
  refine awl_hw (wt_none rfl) (st_box rfl rfl (by first | rfl | assumption) (by first | assumption | (simp only [cellsA]; rfl)) rfl rfl ?_)
  intro g1
  repeat (first | refine awp_seq ?_ | refine awp_block ?_ | refine awp_region_lit rfl ?_ | (show AWL _ _ _ (⟨_, .assign _, _, _, _, _⟩ :: _) _ _ _; refine awl_pw (wt_none rfl) (pv_assign rfl rfl) rfl rfl ?_) | refine awl_nil ?_)
  refine awp_ghost (ghost_nilrow 56 2) ?_
  refine awp_ghost (ghost_nilrow 56 2) ?_
  refine awp_loop (fun w s h => ∃ (m : Nat) (a : Option Addr) (c : Nat) (a' : Option Addr) (c' L : Nat), m ≤ M ∧ w = M - m ∧ (m = 0 → L = 0) ∧ (m ≠ 0 → L = p.ords.length) ∧ (0 < L → ∃ g, a = some ⟨g, 0, none⟩) ∧ (0 < L → ∃ g, a' = some ⟨g, 0, none⟩) ∧
    s = [(1, .v (ptrV g1)), (4, .v (.slice a L c)), (5, .v (.slice a' L c')), (6, intA m)] ∧ h = [.rw (.slice a L c) 56 2 (gRows (fun i => rB (fI p i) m) L), .rw (.slice a' L c') 56 2 (gRows (fun i => rB (mI p i) m) L), .cl g1 24 [.t (ordsT cp p.ords)]]) ?_ ⟨0, none, 0, none, 0, 0, Nat.zero_le _, rfl, (fun _ => rfl), (fun h => absurd rfl h), (fun h => absurd h (Nat.lt_irrefl _)), (fun h => absurd h (Nat.lt_irrefl _)), rfl, rfl⟩ (by first | ((repeat' (first | exact True.intro | refine ⟨rfl, ?_⟩)); all_goals fail) | fail) (by solve | repeat' constructor)
  rintro w s h ⟨m, a, c, a', c', L, hm, rfl, hL0, hLn, hA, hA', rfl, rfl⟩
  by_cases hmt : m < M
  case neg =>
    obtain rfl : m = M := by omega
    obtain rfl : L = p.ords.length := hLn (by omega)
    have hr : ∀ f : Nat → Int × Int, (Tr.sl true 2 p.ords.length fun q => rngL (((List.range p.ords.length).map f).getD q default)) = rngsT true ((List.range p.ords.length).map f) := fun f => by unfold rngsT; simp
    repeat (first | refine awp_seq ?_ | refine awp_region_lit rfl ?_ | (show AWL _ _ _ (⟨_, .move _, _, _, _, _⟩ :: _) _ _ _; refine awl_pw (wt_none rfl) (pv_move rfl rfl) rfl rfl ?_) | (show AWL _ _ _ (⟨_, .load _ _, _, _, _, _⟩ :: _) _ _ _; refine awl_lw (wt_none rfl) (lv_cla T0 rfl rfl rfl (by solve | repeat' constructor) rfl) rfl rfl rfl ?_))
    refine awl_hw (wt_none rfl) (st_call T0 (many_p cp p hv) rfl rfl rfl rfl (by first | exact callee_lit | exact callee_v | exact callee_fn | assumption) (by solve | repeat' constructor) (by first | rfl | assumption) rfl ?_)
    rintro _ rfl
    repeat (first | refine awp_seq ?_ | refine awp_region_lit rfl ?_ | refine awp_exit ?_ | refine awp_ret ?_ | refine then_n ?_ | refine awp_cond_f rfl (by first | rfl | assumption | exact dF (by omega)) ?_ | (show AWL _ _ _ (⟨_, .move _, _, _, _, _⟩ :: _) _ _ _; refine awl_pw (wt_none rfl) (pv_move rfl rfl) rfl rfl ?_) | (show AWL _ _ _ (⟨_, .assign _, _, _, _, _⟩ :: _) _ _ _; refine awl_pw (wt_none rfl) (pv_assign rfl rfl) rfl rfl ?_) | (show AWL _ _ _ (⟨_, .binOp .lss _ _ _ _, _, _, _, _⟩ :: _) _ _ _; refine awl_pw (wt_none rfl) (pv_lss rfl rfl rfl) rfl rfl ?_) | refine awl_nil ?_)
    refine bodyQ_ghost (ghost_freeze (E := 56) (sz := 2) (n := p.ords.length) (rows := gRows (fun i => rB (fI p i) m) p.ords.length) (d := 2) (fun q => rngL (((List.range p.ords.length).map (fun i => rB (fI p i) m)).getD q default)) (by solve | repeat' constructor) rfl (gRows_len _ _) gRows_tree) ?_
    refine bodyQ_ghost (ghost_freeze (E := 56) (sz := 2) (n := p.ords.length) (rows := gRows (fun i => rB (mI p i) m) p.ords.length) (d := 3) (fun q => rngL (((List.range p.ords.length).map (fun i => rB (mI p i) m)).getD q default)) (by solve | repeat' constructor) rfl (gRows_len _ _) gRows_tree) ?_
    refine body_p (.cons rfl (.cons rfl .nil)) ?_
    rw [hr, hr]
    rfl
  have ht := nth_truth hv (n := (m : Int)) (by omega)
  have hpl : (playI p m).length ≤ 120 := play_len hv ht
  have hno : ∀ s ∈ playI p m, NumOk s := fun s h => sok_num hv (play_sok hv ht s h)
  repeat (first | refine awp_seq ?_ | refine awp_region_lit rfl ?_ | (show AWL _ _ _ (⟨_, .move _, _, _, _, _⟩ :: _) _ _ _; refine awl_pw (wt_none rfl) (pv_move rfl rfl) rfl rfl ?_) | (show AWL _ _ _ (⟨_, .load _ _, _, _, _, _⟩ :: _) _ _ _; refine awl_lw (wt_none rfl) (lv_cla T0 rfl rfl rfl (by solve | repeat' constructor) rfl) rfl rfl rfl ?_))
  refine awl_hw (wt_none rfl) (st_call T0 (many_p cp p hv) rfl rfl rfl rfl (by first | exact callee_lit | exact callee_v | exact callee_fn | assumption) (by solve | repeat' constructor) (by first | rfl | assumption) rfl ?_)
  rintro _ rfl
  repeat (first | refine awp_seq ?_ | refine awp_block ?_ | refine awp_skip ?_ | refine then_n ?_ | refine awp_cond_t rfl (by first | rfl | assumption | exact dT (by omega)) ?_ | (show AWL _ _ _ (⟨_, .binOp .lss _ _ _ _, _, _, _, _⟩ :: _) _ _ _; refine awl_pw (wt_none rfl) (pv_lss rfl rfl rfl) rfl rfl ?_) | refine awl_nil ?_)
  refine awp_cut (fun s h => s = [(1, .v (ptrV g1)), (4, .v (.slice a L c)), (5, .v (.slice a' L c')), (6, intA m), (7, .t (salesT true (playI p m)))] ∧ h = [.rw (.slice a L c) 56 2 (gRows (fun i => rB (fI p i) m) L), .rw (.slice a' L c') 56 2 (gRows (fun i => rB (mI p i) m) L), .cl g1 24 [.t (ordsT cp p.ords)]]) ?_ ?_
  · refine awp_tree T0 [(0, 1), (1, 1), (2, 0), (3, 2), (4, 3), (5, 0)] (.op 0 1 (.op 1 1 (.op 2 0 (.op 3 2 (.op 4 3 (.op 5 0 .stop)))))) [.cl g1 _ _] rfl (by kernel_rfl) (by solve | repeat' constructor) ?_
    refine awt_lo rfl (wt_none rfl) (lv_cla T0 rfl rfl rfl (by solve | repeat' constructor) rfl) rfl rfl rfl ?_
    refine awt_lo rfl (wt_none rfl) (lv_cla T0 rfl rfl rfl (by solve | repeat' constructor) rfl) rfl rfl rfl ?_
    refine awt_po rfl (wt_none rfl) (pv_move rfl rfl) rfl rfl ?_
    refine awt_h (hm := []) rfl (wt_none rfl) (by solve | repeat' constructor) rfl (st_call T0 (nth_p cp p hv m (by omega)) rfl rfl rfl rfl (by first | exact callee_lit | exact callee_v | exact callee_fn | assumption) (by solve | repeat' constructor) (by first | rfl | assumption) rfl ?_)
    rintro _ rfl
    refine awt_s (md := fun _ => True) rfl (wt_none rfl) (st_call T0 (refplay_p cp true p (nthL p m p.ords.length) hv ht) rfl rfl rfl rfl (by first | exact callee_lit | exact callee_v | exact callee_fn | assumption) (by solve | repeat' constructor) (by first | rfl | assumption) rfl ?_)
    rintro _ rfl
    refine awe_p rfl (wt_none rfl) (pv_assign rfl rfl) rfl rfl ?_
    refine awe_end ?_
    exact cut_n ⟨rfl, rfl⟩ (by first | ((repeat' (first | exact True.intro | refine ⟨rfl, ?_⟩)); all_goals fail) | fail) (by solve | repeat' constructor)
  rintro s h ⟨rfl, rfl⟩
  have e0 : ∀ g : Nat → Nat → Int, gRows (fun i => rB (g i) m) L = gRows (inB2 g m 0) L := fun g => gRows_congr fun q _ => by unfold inB2; rw [if_neg (Nat.not_lt_zero _)]
  rw [e0 (fI p), e0 (mI p)]
  repeat (first | refine awp_seq ?_ | refine awp_block ?_ | refine awp_region_lit rfl ?_ | (show AWL _ _ _ (⟨_, .assign _, _, _, _, _⟩ :: _) _ _ _; refine awl_pw (wt_none rfl) (pv_assign rfl rfl) rfl rfl ?_) | refine awl_nil ?_)
  refine awp_cutX2 (fun s h => ∃ (a : Option Addr) (c : Nat) (a' : Option Addr) (c' : Nat), (0 < p.ords.length → ∃ g, a = some ⟨g, 0, none⟩) ∧ (0 < p.ords.length → ∃ g, a' = some ⟨g, 0, none⟩) ∧ s = [(1, .v (ptrV g1)), (4, .v (.slice a p.ords.length c)), (5, .v (.slice a' p.ords.length c')), (6, intA m)] ∧ h = [.rw (.slice a p.ords.length c) 56 2 (gRows (inB2 (fI p) m p.ords.length) p.ords.length), .rw (.slice a' p.ords.length c') 56 2 (gRows (inB2 (mI p) m p.ords.length) p.ords.length), .cl g1 24 [.t (ordsT cp p.ords)]]) ?_ ?_
  rotate_left
  · rintro s h ⟨a, c, a', c', hA, hA', rfl, rfl⟩
    have e1 : ∀ g : Nat → Nat → Int, gRows (inB2 g m p.ords.length) p.ords.length = gRows (fun i => rB (g i) (m + 1)) p.ords.length := fun g => gRows_congr fun q hq => by unfold inB2; rw [if_pos hq]
    rw [e1 (fI p), e1 (mI p)]
    repeat (first | refine awp_region_lit rfl ?_ | (show AWL _ _ _ (⟨_, .move _, _, _, _, _⟩ :: _) _ _ _; refine awl_pw (wt_none rfl) (pv_move rfl rfl) rfl rfl ?_) | (show AWL _ _ _ (⟨_, .assign _, _, _, _, _⟩ :: _) _ _ _; refine awl_pw (wt_none rfl) (pv_assign rfl rfl) rfl rfl ?_) | (show AWL _ _ _ (⟨_, .binOp .add _ _ _ _, _, _, _, _⟩ :: _) _ _ _; refine awl_pw (wt_none rfl) (pv_add rfl rfl rfl (by first | assumption | exact wr64 (by omega))) rfl rfl ?_) | refine awl_nil ?_)
    refine rnd_n _ _ _ ?_ ⟨m + 1, a, c, a', c', p.ords.length, hmt, rfl, (fun h => absurd h (Nat.succ_ne_zero _)), (fun _ => rfl), hA, hA', rfl, rfl⟩ (by first | ((repeat' (first | exact True.intro | refine ⟨rfl, ?_⟩)); all_goals fail) | fail) (by solve | repeat' constructor)
    omega
  refine awp_loop (fun w s h => ∃ (k : Nat) (a : Option Addr) (c : Nat) (a' : Option Addr) (c' L : Nat), k ≤ p.ords.length ∧ w = p.ords.length - k ∧ (m = 0 → L = k) ∧ (m ≠ 0 → L = p.ords.length) ∧ (0 < L → ∃ g, a = some ⟨g, 0, none⟩) ∧ (0 < L → ∃ g, a' = some ⟨g, 0, none⟩) ∧
    s = [(1, .v (ptrV g1)), (4, .v (.slice a L c)), (5, .v (.slice a' L c')), (6, intA m), (7, .t (salesT true (playI p m))), (8, intA k)] ∧ h = [.rw (.slice a L c) 56 2 (gRows (inB2 (fI p) m k) L), .rw (.slice a' L c') 56 2 (gRows (inB2 (mI p) m k) L), .cl g1 24 [.t (ordsT cp p.ords)]]) ?_ ⟨0, a, c, a', c', L, Nat.zero_le _, rfl, hL0, hLn, hA, hA', rfl, rfl⟩ (by first | ((repeat' (first | exact True.intro | refine ⟨rfl, ?_⟩)); all_goals fail) | fail) (by solve | repeat' constructor)
  clear hA hA' hL0 hLn e0
  rintro w s h ⟨k, a, c, a', c', L, hk, rfl, hL0, hLn, hA, hA', rfl, rfl⟩
  by_cases hkt : k < p.ords.length
  case neg =>
    obtain rfl : k = p.ords.length := by omega
    obtain rfl : L = p.ords.length := by
      by_cases c : m = 0
      · exact hL0 c
      · exact hLn c
    repeat (first | refine awp_seq ?_ | refine awp_region_lit rfl ?_ | refine awp_exit ?_ | refine then_n ?_ | refine then_x ?_ | refine blk_x ?_ | refine rnd_x ?_ | refine awp_cond_f rfl (by first | rfl | assumption | exact dF (by omega)) ?_ | (show AWL _ _ _ (⟨_, .move _, _, _, _, _⟩ :: _) _ _ _; refine awl_pw (wt_none rfl) (pv_move rfl rfl) rfl rfl ?_) | (show AWL _ _ _ (⟨_, .load _ _, _, _, _, _⟩ :: _) _ _ _; refine awl_lw (wt_none rfl) (lv_cl1 T0 rfl rfl rfl (by solve | repeat' constructor) (by first | rfl | assumption)) rfl rfl rfl ?_) | (show AWL _ _ _ (⟨_, .fieldAddr _ _ _, _, _, _, _⟩ :: _) _ _ _; refine awl_pw (wt_none rfl) (pv_fa T0 rfl rfl rfl (by simp; rfl)) rfl rfl ?_) | (show AWL _ _ _ (⟨_, .binOp .lss _ _ _ _, _, _, _, _⟩ :: _) _ _ _; refine awl_pw (wt_none rfl) (pv_lss rfl rfl rfl) rfl rfl ?_) | (show AWL _ _ _ (⟨_, .call ⟨.builtin .len, _, _⟩, _, _, _, _⟩ :: _) _ _ _; refine awl_pw (wt_none rfl) (pv_len_t T0 rfl rfl rfl) rfl rfl ?_) | refine awl_nil ?_)
    exact cut_n ⟨a, c, a', c', hA, hA', rfl, rfl⟩ (by first | ((repeat' (first | exact True.intro | refine ⟨rfl, ?_⟩)); all_goals fail) | fail) (by solve | repeat' constructor)
  have hfb := filR_bd hno k (playI p m).length (Nat.le_refl _)
  repeat (first | refine awp_seq ?_ | refine awp_block ?_ | refine awp_region_lit rfl ?_ | refine awp_skip ?_ | refine then_n ?_ | refine awp_cond_t rfl (by first | rfl | assumption | exact dT (by omega)) ?_ | (show AWL _ _ _ (⟨_, .move _, _, _, _, _⟩ :: _) _ _ _; refine awl_pw (wt_none rfl) (pv_move rfl rfl) rfl rfl ?_) | (show AWL _ _ _ (⟨_, .load _ _, _, _, _, _⟩ :: _) _ _ _; refine awl_lw (wt_none rfl) (lv_cl1 T0 rfl rfl rfl (by solve | repeat' constructor) (by first | rfl | assumption)) rfl rfl rfl ?_) | (show AWL _ _ _ (⟨_, .fieldAddr _ _ _, _, _, _, _⟩ :: _) _ _ _; refine awl_pw (wt_none rfl) (pv_fa T0 rfl rfl rfl (by simp; rfl)) rfl rfl ?_) | (show AWL _ _ _ (⟨_, .binOp .lss _ _ _ _, _, _, _, _⟩ :: _) _ _ _; refine awl_pw (wt_none rfl) (pv_lss rfl rfl rfl) rfl rfl ?_) | (show AWL _ _ _ (⟨_, .call ⟨.builtin .len, _, _⟩, _, _, _, _⟩ :: _) _ _ _; refine awl_pw (wt_none rfl) (pv_len_t T0 rfl rfl rfl) rfl rfl ?_) | refine awl_nil ?_)
  refine awl_hw (wt_none rfl) (st_call T0 (reffilled_p true (playI p m) k (by omega) hno) rfl rfl rfl rfl (by first | exact callee_lit | exact callee_v | exact callee_fn | assumption) (by solve | repeat' constructor) (by first | rfl | assumption) rfl ?_)
  rintro _ rfl
  by_cases h0 : m = 0
  · obtain rfl : L = k := hL0 h0
    have d0 : decide ((m : Int) = 0) = true := decide_eq_true (by omega)
    have hgl := gRows_len (inB2 (fI p) m L) L
    have hgl' := gRows_len (inB2 (mI p) m L) L
    have hs : ∀ g : Nat → Nat → Int, gRows (inB2 g m L) L ++ [[intA (g L m), intA (g L m)]] = gRows (inB2 g m (L + 1)) (L + 1) := fun g => gRows_snoc (fun q hq => by unfold inB2; rw [if_pos (by omega), if_pos hq]) (by unfold inB2; rw [if_pos (Nat.lt_succ_self _)]; exact if_pos h0)
    repeat (first | refine awp_seq ?_ | refine awp_region_lit rfl ?_ | refine then_n ?_ | refine awp_cond_t rfl (by first | rfl | assumption | exact dT (by omega)) ?_ | (show AWL _ _ _ (⟨_, .move _, _, _, _, _⟩ :: _) _ _ _; refine awl_pw (wt_none rfl) (pv_move rfl rfl) rfl rfl ?_) | (show AWL _ _ _ (⟨_, .assign _, _, _, _, _⟩ :: _) _ _ _; refine awl_pw (wt_none rfl) (pv_assign rfl rfl) rfl rfl ?_) | (show AWL _ _ _ (⟨_, .build _ _, _, _, _, _⟩ :: _) _ _ _; refine awl_pw (wt_none rfl) (pv_build T0 rfl rfl rfl (by simp only [Value.cells, List.toList_toArray, List.map_cons, List.map_nil]; rfl) (by first | ((repeat' (first | exact BParts.nil | apply BParts.cons | rfl)); all_goals fail) | fail) (by first | ((repeat' (first | exact FillA.nil | exact Sp.done | apply FillA.cons | apply Sp.put | apply Sp.skip | (simp only [cellsA]; rfl) | rfl)); all_goals fail) | fail)) rfl rfl ?_) | (show AWL _ _ _ (⟨_, .binOp .eql _ _ _ _, _, _, _, _⟩ :: _) _ _ _; refine awl_pw (wt_none rfl) (pv_eql rfl rfl rfl) rfl rfl ?_) | (show AWL _ _ _ (⟨_, .extract _ _, _, _, _, _⟩ :: _) _ _ _; refine awl_pw (wt_none rfl) (pv_extract rfl rfl rfl) rfl rfl ?_) | refine awl_nil ?_)
    refine awl_hw (wt_none rfl) (st_bsl T0 rfl rfl rfl rfl rfl (by solve | repeat' constructor) rfl rfl rfl rfl (by simp only [List.map_cons, List.map_nil, cellsA]; rfl) ?_)
    intro g41
    skip
    refine awl_hw (wt_none rfl) (st_app T0 rfl rfl rfl rfl rfl rfl rfl rfl rfl (by solve | repeat' constructor) (by solve | repeat' constructor) rfl rfl hgl (by omega) (fun _ _ => trivial) ?_)
    intro a42 c42 p42
    repeat (first | (show AWL _ _ _ (⟨_, .move _, _, _, _, _⟩ :: _) _ _ _; refine awl_pw (wt_none rfl) (pv_move rfl rfl) rfl rfl ?_) | (show AWL _ _ _ (⟨_, .build _ _, _, _, _, _⟩ :: _) _ _ _; refine awl_pw (wt_none rfl) (pv_build T0 rfl rfl rfl (by simp only [Value.cells, List.toList_toArray, List.map_cons, List.map_nil]; rfl) (by first | ((repeat' (first | exact BParts.nil | apply BParts.cons | rfl)); all_goals fail) | fail) (by first | ((repeat' (first | exact FillA.nil | exact Sp.done | apply FillA.cons | apply Sp.put | apply Sp.skip | (simp only [cellsA]; rfl) | rfl)); all_goals fail) | fail)) rfl rfl ?_))
    refine awl_hw (wt_none rfl) (st_bsl T0 rfl rfl rfl rfl rfl (by solve | repeat' constructor) rfl rfl rfl rfl (by simp only [List.map_cons, List.map_nil, cellsA]; rfl) ?_)
    intro g47
    skip
    refine awl_hw (wt_none rfl) (st_app T0 rfl rfl rfl rfl rfl rfl rfl rfl rfl (by solve | repeat' constructor) (by solve | repeat' constructor) rfl rfl hgl' (by omega) (fun _ _ => trivial) ?_)
    intro a48 c48 p48
    repeat (first | refine awp_seq ?_ | (show AWL _ _ _ (⟨_, .assign _, _, _, _, _⟩ :: _) _ _ _; refine awl_pw (wt_none rfl) (pv_assign rfl rfl) rfl rfl ?_) | refine awl_nil ?_)
    rw [show gRows (inB2 (fI p) m L) L ++ [[intA (filR (playI p m) L (playI p m).length).1, intA (filR (playI p m) L (playI p m).length).1]] = _ from hs (fI p), show gRows (inB2 (mI p) m L) L ++ [[intA (filR (playI p m) L (playI p m).length).2, intA (filR (playI p m) L (playI p m).length).2]] = _ from hs (mI p)]
    have hf : ∀ g : Nat → Nat → Int, inB2 g m (L + 1) L = (g L m, g L m) := fun g => by unfold inB2; rw [if_pos (Nat.lt_succ_self _)]; exact if_pos h0
    have hid : ∀ (g : Nat → Nat → Int) (q : Nat), q < L + 1 → inB2 g m (L + 1) q = if q = L then (min (inB2 g m (L + 1) L).1 (g L m), max (inB2 g m (L + 1) L).2 (g L m)) else inB2 g m (L + 1) q := fun g q _ => by
      by_cases e : q = L
      · subst e
        rw [if_pos rfl, hf g, Int.min_self, Int.max_self]
      · rw [if_neg e]
    obtain ⟨gF, rfl⟩ := p42 (Nat.lt_succ_self 0)
    obtain ⟨gM, rfl⟩ := p48 (Nat.lt_succ_self 0)
    refine awp_cut _ (awp_weak (by first | ((repeat' (first | exact True.intro | refine ⟨rfl, ?_⟩)); all_goals fail) | fail) (by solve | repeat' constructor) (ox_12 (g1 := g1) (gF := gF) (n := L + 1) (cF := c42) (k := L) (F := inB2 (fI p) m (L + 1)) (F' := inB2 (fI p) m (L + 1)) (x := fI p L m) (u6 := intA m) (u7 := .t (salesT true (playI p m))) (u10 := intA (mI p L m)) (e1 := .t (ordsT cp p.ords)) (V := .slice (some ⟨gM, 0, none⟩) (L + 1) c48) (rM := gRows (inB2 (mI p) m (L + 1)) (L + 1)) (Nat.lt_succ_self _) (by omega) (hid (fI p)) rfl)) ?_
    rintro s h ⟨rfl, rfl⟩
    skip
    refine awp_cutB _ (awp_weak (by first | ((repeat' (first | exact True.intro | refine ⟨rfl, ?_⟩)); all_goals fail) | fail) (by solve | repeat' constructor) (ox_13 (g1 := g1) (gF := gM) (n := L + 1) (cF := c48) (k := L) (F := inB2 (mI p) m (L + 1)) (F' := inB2 (mI p) m (L + 1)) (x := mI p L m) (u6 := intA m) (u7 := .t (salesT true (playI p m))) (e1 := .t (ordsT cp p.ords)) (V := .slice (some ⟨gF, 0, none⟩) (L + 1) c42) (rM := gRows (inB2 (fI p) m (L + 1)) (L + 1)) (Nat.lt_succ_self _) (by omega) (hid (mI p)) rfl)) ?_
    rintro s h ⟨rfl, rfl⟩
    repeat (first | refine awp_region_lit rfl ?_ | (show AWL _ _ _ (⟨_, .move _, _, _, _, _⟩ :: _) _ _ _; refine awl_pw (wt_none rfl) (pv_move rfl rfl) rfl rfl ?_) | (show AWL _ _ _ (⟨_, .assign _, _, _, _, _⟩ :: _) _ _ _; refine awl_pw (wt_none rfl) (pv_assign rfl rfl) rfl rfl ?_) | (show AWL _ _ _ (⟨_, .binOp .add _ _ _ _, _, _, _, _⟩ :: _) _ _ _; refine awl_pw (wt_none rfl) (pv_add rfl rfl rfl (by first | assumption | exact wr64 (by omega))) rfl rfl ?_) | refine awl_nil ?_)
    refine rnd_n _ _ _ ?_ ⟨L + 1, _, c42, _, c48, L + 1, hkt, rfl, (fun _ => rfl), (fun h => absurd h0 h), (fun _ => ⟨gF, rfl⟩), (fun _ => ⟨gM, rfl⟩), rfl, rfl⟩ (by first | ((repeat' (first | exact True.intro | refine ⟨rfl, ?_⟩)); all_goals fail) | fail) (by solve | repeat' constructor)
    omega
  obtain rfl : L = p.ords.length := hLn h0
  have d0 : decide ((m : Int) = 0) = false := decide_eq_false (by omega)
  obtain ⟨gF, rfl⟩ := hA (by omega)
  obtain ⟨gM, rfl⟩ := hA' (by omega)
  repeat (first | refine awp_seq ?_ | refine awp_region_lit rfl ?_ | refine awp_skip ?_ | refine then_n ?_ | refine awp_cond_f rfl (by first | rfl | assumption | exact dF (by omega)) ?_ | (show AWL _ _ _ (⟨_, .move _, _, _, _, _⟩ :: _) _ _ _; refine awl_pw (wt_none rfl) (pv_move rfl rfl) rfl rfl ?_) | (show AWL _ _ _ (⟨_, .assign _, _, _, _, _⟩ :: _) _ _ _; refine awl_pw (wt_none rfl) (pv_assign rfl rfl) rfl rfl ?_) | (show AWL _ _ _ (⟨_, .binOp .eql _ _ _ _, _, _, _, _⟩ :: _) _ _ _; refine awl_pw (wt_none rfl) (pv_eql rfl rfl rfl) rfl rfl ?_) | (show AWL _ _ _ (⟨_, .extract _ _, _, _, _, _⟩ :: _) _ _ _; refine awl_pw (wt_none rfl) (pv_extract rfl rfl rfl) rfl rfl ?_) | refine awl_nil ?_)
  refine awp_cut _ (awp_weak (by first | ((repeat' (first | exact True.intro | refine ⟨rfl, ?_⟩)); all_goals fail) | fail) (by solve | repeat' constructor) (ox_12 (g1 := g1) (gF := gF) (n := p.ords.length) (cF := c) (k := k) (F := inB2 (fI p) m k) (F' := inB2 (fI p) m (k + 1)) (x := fI p k m) (u6 := intA m) (u7 := .t (salesT true (playI p m))) (u10 := intA (mI p k m)) (e1 := .t (ordsT cp p.ords)) (V := .slice (some ⟨gM, 0, none⟩) p.ords.length c') (rM := gRows (inB2 (mI p) m k) p.ords.length) hkt hlen (fun q _ => inB2_step (fI p) h0 q) rfl)) ?_
  rintro s h ⟨rfl, rfl⟩
  skip
  refine awp_cutB _ (awp_weak (by first | ((repeat' (first | exact True.intro | refine ⟨rfl, ?_⟩)); all_goals fail) | fail) (by solve | repeat' constructor) (ox_13 (g1 := g1) (gF := gM) (n := p.ords.length) (cF := c') (k := k) (F := inB2 (mI p) m k) (F' := inB2 (mI p) m (k + 1)) (x := mI p k m) (u6 := intA m) (u7 := .t (salesT true (playI p m))) (e1 := .t (ordsT cp p.ords)) (V := .slice (some ⟨gF, 0, none⟩) p.ords.length c) (rM := gRows (inB2 (fI p) m (k + 1)) p.ords.length) hkt hlen (fun q _ => inB2_step (mI p) h0 q) rfl)) ?_
  rintro s h ⟨rfl, rfl⟩
  repeat (first | refine awp_region_lit rfl ?_ | (show AWL _ _ _ (⟨_, .move _, _, _, _, _⟩ :: _) _ _ _; refine awl_pw (wt_none rfl) (pv_move rfl rfl) rfl rfl ?_) | (show AWL _ _ _ (⟨_, .assign _, _, _, _, _⟩ :: _) _ _ _; refine awl_pw (wt_none rfl) (pv_assign rfl rfl) rfl rfl ?_) | (show AWL _ _ _ (⟨_, .binOp .add _ _ _ _, _, _, _, _⟩ :: _) _ _ _; refine awl_pw (wt_none rfl) (pv_add rfl rfl rfl (by first | assumption | exact wr64 (by omega))) rfl rfl ?_) | refine awl_nil ?_)
  refine rnd_n _ _ _ ?_ ⟨k + 1, _, c, _, c', p.ords.length, hkt, rfl, (fun h => absurd h h0), (fun _ => rfl), (fun _ => ⟨gF, rfl⟩), (fun _ => ⟨gM, rfl⟩), rfl, rfl⟩ (by first | ((repeat' (first | exact True.intro | refine ⟨rfl, ?_⟩)); all_goals fail) | fail) (by solve | repeat' constructor)
  omega
end Go.Proofs.Yteaoclpikdmkiaa
