/- Joined texts: Sa, Sb, Sc. -/
import Derived.Test.YtlpknbneilgjkaaZnRGBf
import Derived.Test.YtlpknbneilgjkaaZnRGMp
import Derived.Test.YtlpknbneilgjkaaZnGTs
import Derived.Test.YtlpknbneilgjkaaZnRFr
section
namespace Go.Proofs.Ytlpknbneilgjkaa.R
open Go Go.RowKit Go.Tl
set_option linter.unusedVariables false
set_option linter.unusedSimpArgs false
set_option maxRecDepth 100000
set_option maxHeartbeats 4000000
attribute [local irreducible] AWP AWL AOp PV LV AWT AWE
abbrev workE (gw gm : Nat) (b : BookD) (cp : Bool) : Ent := .cl gw 230 [intA b.houses, .t (consT cp b.cons), .v (.map (some gm))]
abbrev leftM (gm : Nat) (F : Arc → Int) : Ent := mapF akV (intA 0) gm (fun a => intA (F a)) none
def wkF (b : BookD) (k : Nat) (a : Arc) : Int := if a.2 = false ∧ a.1 < k then numF b a.1 else 0
section
variable {b : BookD} {k g1 g5 gw gm : Nat} {cp : Bool} {u11 u12 : AV} {F : Arc → Int}
theorem wk_5 {v : Int} (hv : v = numF b k) {x : Ent} {c1 c2 c4 : AV} {ops : Array Oper} (h : regF Try.f55 5 = some ops) :
    AWP Try.prog Try.f55.ntmps none (.region 5 ops true) (cutQ (fun s h => s = [(3, .v (ptrV gw)), (11, u11), (12, u12), (13, intA k)] ∧ h = [workE gw gm b cp, leftM gm (wkF b (k + 1)), x]))
      [(3, .v (ptrV gw)), (4, intA k), (5, .v (ptrV g5)), (11, u11), (12, u12), (13, intA k)] [workE gw gm b cp, leftM gm (wkF b k), x, .cl g5 164 [c1, c2, intA v, c4]] := by
  cases h
  subst hv
  have hup : updF (fun a => intA (wkF b k a)) (k, false) (intA (numF b k)) = fun a => intA (wkF b (k + 1) a) := by
    funext a
    obtain ⟨i, t⟩ := a
    unfold updF wkF
    by_cases c : ((i, t) : Arc) = (k, false)
    · cases c; rw [if_pos rfl, if_pos ⟨rfl, Nat.lt_succ_self _⟩]
    · rw [if_neg c]
      show intA (if t = false ∧ i < k then numF b i else 0) = intA (if t = false ∧ i < k + 1 then numF b i else 0)
      by_cases c1 : t = false ∧ i < k
      · rw [if_pos c1, if_pos ⟨c1.1, Nat.lt_succ_of_lt c1.2⟩]
      · rw [if_neg c1, if_neg (fun h => by
          have h2 : i < k + 1 := h.2
          have h1 : t = false := h.1
          by_cases e : i = k
          · subst e; subst h1; exact c rfl
          · exact c1 ⟨h1, by omega⟩)]
  refine awp_tree T0 [(0, 0), (1, 0), (2, 0), (3, 1), (4, 0), (5, 0), (6, 0), (7, 1), (8, 3)] (.op 0 0 (.op 1 0 (.op 2 0 (.op 3 1 (.op 4 0 (.op 5 0 (.op 6 0 (.op 7 1 (.op 8 3 .stop))))))))) [.cl gw _ _, .cl g5 _ _] rfl (by kernel_rfl) (by solve | repeat' constructor) ?_
  refine awt_po rfl (wt_none rfl) (pv_move rfl rfl) rfl rfl ?_
  refine awt_po rfl (wt_none rfl) (pv_nilCheck rfl rfl) rfl rfl ?_
  refine awt_po rfl (wt_none rfl) (pv_fa T0 rfl rfl rfl (by simp; rfl)) rfl rfl ?_
  refine awt_lo rfl (wt_none rfl) (lv_cl1 T0 rfl rfl rfl (by solve | repeat' constructor) (by first | rfl | assumption)) rfl rfl rfl ?_
  refine awt_po rfl (wt_none rfl) (pv_move rfl rfl) rfl rfl ?_
  refine awt_po rfl (wt_none rfl) (pv_build T0 rfl rfl rfl (by simp only [Value.cells, List.toList_toArray, List.map_cons, List.map_nil]; rfl) (by first | ((repeat' (first | exact BParts.nil | apply BParts.cons | rfl)); all_goals fail) | fail) (by first | ((repeat' (first | exact FillA.nil | exact Sp.done | apply FillA.cons | apply Sp.put | apply Sp.skip | (simp only [cellsA]; rfl) | rfl)); all_goals fail) | fail)) rfl rfl ?_
  refine awt_po rfl (wt_none rfl) (pv_fa T0 rfl rfl rfl (by simp; rfl)) rfl rfl ?_
  refine awt_lo rfl (wt_none rfl) (lv_cl1 T0 rfl rfl rfl (by solve | repeat' constructor) (by first | rfl | assumption)) rfl rfl rfl ?_
  refine awt_s (md := fun _ => True) rfl (wt_none rfl) (aop_mapUpdateF Ma rfl rfl rfl rfl rfl rfl (by solve | repeat' constructor) hup trivial ?_)
  refine awe_end ?_
  exact cut_n ⟨rfl, rfl⟩ (by first | ((repeat' (first | exact True.intro | refine ⟨rfl, ?_⟩)); all_goals fail) | fail) (by solve | repeat' constructor)
end
theorem wk_zero (b : BookD) : (fun _ => intA 0) = fun a => intA (wkF b 0 a) := by
  funext a
  unfold wkF
  rw [if_neg (fun h => absurd h.2 (Nat.not_lt_zero _))]
theorem wk_all (b : BookD) : wkF b b.cons.length = fL (numF b) (fun _ => 0) := by
  funext a
  obtain ⟨i, t⟩ := a
  unfold wkF fL
  cases t
  · by_cases c : i < b.cons.length
    · rw [if_pos ⟨rfl, c⟩]; show numF b i = numF b i - 0; omega
    · rw [if_neg (fun h => c h.2)]
      show 0 = numF b i - 0
      unfold numF
      rw [List.getD_eq_getElem?_getD, List.getElem?_eq_none (by omega)]
      rfl
  · rw [if_neg (fun h => by cases h.1)]; rfl
theorem work_p (cp : Bool) (b : BookD) (hl : b.cons.length ≤ 1000) : ACall Try.prog 55 [bookA cp b] [] (fun r h' => ∃ gw gm, r = .v (ptrV gw) ∧ h' = [workE gw gm b cp, leftM gm (fL (numF b) (fun _ => 0))]) := by
  refine acall_of_awp T0 Try.func55 rfl rfl rfl ?_
  repeat (first | refine awp_seq ?_ | refine awp_region_lit rfl ?_)
  refine awl_hw (wt_none rfl) (st_box rfl rfl (by first | rfl | assumption) (by first | assumption | (simp only [cellsA]; rfl)) rfl rfl ?_)
  intro g1
  repeat (first | refine awp_seq ?_ | refine awp_region_lit rfl ?_ | (show AWL _ _ _ (⟨_, .assign _, _, _, _, _⟩ :: _) _ _ _; refine awl_pw (wt_none rfl) (pv_assign rfl rfl) rfl rfl ?_) | (show AWL _ _ _ (⟨_, .load _ _, _, _, _, _⟩ :: _) _ _ _; refine awl_lw (wt_none rfl) (lv_cla T0 rfl rfl rfl (by solve | repeat' constructor) rfl) rfl rfl rfl ?_) | refine awl_nil ?_)
  refine awl_hw (wt_none rfl) (aop_makeMapF akV (intA 0) rfl rfl rfl ?_)
  intro gm
  rw [wk_zero b]
  repeat (first | (show AWL _ _ _ (⟨_, .build _ _, _, _, _, _⟩ :: _) _ _ _; refine awl_pw (wt_none rfl) (pv_build T0 rfl rfl rfl (by simp only [Value.cells, List.toList_toArray, List.map_cons, List.map_nil]; rfl) (by first | ((repeat' (first | exact BParts.nil | apply BParts.cons | rfl)); all_goals fail) | fail) (by first | ((repeat' (first | exact FillA.nil | exact Sp.done | apply FillA.cons | apply Sp.put | apply Sp.skip | (simp only [cellsA]; rfl) | rfl)); all_goals fail) | fail)) rfl rfl ?_))
  refine awl_hw (wt_none rfl) (st_box rfl rfl (by first | rfl | assumption) (by first | assumption | (simp only [cellsA]; rfl)) rfl rfl ?_)
  intro gw
  repeat (first | refine awp_seq ?_ | refine awp_block ?_ | refine awp_region_lit rfl ?_ | (show AWL _ _ _ (⟨_, .move _, _, _, _, _⟩ :: _) _ _ _; refine awl_pw (wt_none rfl) (pv_move rfl rfl) rfl rfl ?_) | (show AWL _ _ _ (⟨_, .assign _, _, _, _, _⟩ :: _) _ _ _; refine awl_pw (wt_none rfl) (pv_assign rfl rfl) rfl rfl ?_) | (show AWL _ _ _ (⟨_, .load _ _, _, _, _, _⟩ :: _) _ _ _; refine awl_lw (wt_none rfl) (lv_cl1 T0 rfl rfl rfl (by solve | repeat' constructor) (by first | rfl | assumption)) rfl rfl rfl ?_) | (show AWL _ _ _ (⟨_, .fieldAddr _ _ _, _, _, _, _⟩ :: _) _ _ _; refine awl_pw (wt_none rfl) (pv_fa T0 rfl rfl rfl (by simp; rfl)) rfl rfl ?_) | (show AWL _ _ _ (⟨_, .call ⟨.builtin .len, _, _⟩, _, _, _, _⟩ :: _) _ _ _; refine awl_pw (wt_none rfl) (pv_len_t T0 rfl rfl rfl) rfl rfl ?_) | refine awl_nil ?_)
  refine awp_loop (fun m s h => ∃ (k : Nat), k ≤ b.cons.length ∧ m = b.cons.length - k ∧ s = [(3, .v (ptrV gw)), (11, .t (consT cp b.cons)), (12, intA b.cons.length), (13, intA k)] ∧ h = [workE gw gm b cp, leftM gm (wkF b k), .cl g1 99 [intA b.houses, .t (consT cp b.cons)]]) ?_ ⟨0, Nat.zero_le _, rfl, rfl, rfl⟩ (by first | ((repeat' (first | exact True.intro | refine ⟨rfl, ?_⟩)); all_goals fail) | fail) (by solve | repeat' constructor)
  rintro m s h ⟨k, hk, rfl, rfl, rfl⟩
  by_cases hlt : k < b.cons.length
  · repeat (first | refine awp_seq ?_ | refine awp_block ?_ | refine awp_region_lit rfl ?_ | refine awp_skip ?_ | refine awp_cond_t rfl (by first | rfl | assumption | exact dT (by omega)) ?_ | (show AWL _ _ _ (⟨_, .move _, _, _, _, _⟩ :: _) _ _ _; refine awl_pw (wt_none rfl) (pv_move rfl rfl) rfl rfl ?_) | (show AWL _ _ _ (⟨_, .load _ _, _, _, _, _⟩ :: _) _ _ _; refine awl_lw (wt_none rfl) (lv_elt_ag T0 rfl rfl rfl rfl (by solve | repeat' constructor)) rfl rfl rfl ?_) | (show AWL _ _ _ (⟨_, .indexAddr _ _ _, _, _, _, _⟩ :: _) _ _ _; refine awl_pw (wt_none rfl) (pv_ix_t T0 rfl rfl rfl rfl (by omega) (by first | exact Int.toNat_natCast _ | rfl)) rfl rfl ?_) | (show AWL _ _ _ (⟨_, .binOp .lss _ _ _ _, _, _, _, _⟩ :: _) _ _ _; refine awl_pw (wt_none rfl) (pv_lss rfl rfl rfl) rfl rfl ?_) | refine awl_nil ?_)
    refine awl_hw (wt_none rfl) (st_alloc T0 rfl rfl rfl rfl (by simp only [Value.cells, List.toList_toArray, List.map_cons, List.map_nil]; rfl) ?_)
    intro g5
    repeat (first | with_reducible refine then_n ?_ | (show AWL _ _ _ (⟨_, .assign _, _, _, _, _⟩ :: _) _ _ _; refine awl_pw (wt_none rfl) (pv_assign rfl rfl) rfl rfl ?_) | (show AWL _ _ _ (⟨_, .store _ _ _, _, _, _, _⟩ :: _) _ _ _; refine awl_hw (wt_none rfl) (st_store T0 rfl rfl rfl rfl rfl (by first | assumption | (simp only [cellsA]; rfl)) rfl rfl rfl (by solve | repeat' constructor) (by solve | repeat' constructor) trivial ?_)) | refine awl_nil ?_)
    refine awp_cutB _ (awp_weak (by first | ((repeat' (first | exact True.intro | refine ⟨rfl, ?_⟩)); all_goals fail) | fail) (by solve | repeat' constructor) (wk_5 (b := b) (k := k) (g5 := g5) (gw := gw) (gm := gm) (cp := cp) (u11 := .t (consT cp b.cons)) (u12 := intA b.cons.length) (v := (b.cons.getD k default).num) rfl (x := .cl g1 99 [intA b.houses, .t (consT cp b.cons)]) rfl)) ?_
    rintro s h ⟨rfl, rfl⟩
    repeat (first | refine awp_region_lit rfl ?_ | (show AWL _ _ _ (⟨_, .move _, _, _, _, _⟩ :: _) _ _ _; refine awl_pw (wt_none rfl) (pv_move rfl rfl) rfl rfl ?_) | (show AWL _ _ _ (⟨_, .binOp .add _ _ _ _, _, _, _, _⟩ :: _) _ _ _; refine awl_pw (wt_none rfl) (pv_add rfl rfl rfl (by first | assumption | exact wr64 (by omega))) rfl rfl ?_) | refine awl_nil ?_)
    refine rnd_n _ _ _ ?_ ⟨k + 1, hlt, rfl, rfl, rfl⟩ (by first | ((repeat' (first | exact True.intro | refine ⟨rfl, ?_⟩)); all_goals fail) | fail) (by solve | repeat' constructor)
    omega
  obtain rfl : k = b.cons.length := by omega
  rw [wk_all]
  repeat (first | refine awp_seq ?_ | refine awp_region_lit rfl ?_ | refine awp_exit ?_ | refine awp_ret ?_ | refine awp_cond_f rfl (by first | rfl | assumption | exact dF (by omega)) ?_ | (show AWL _ _ _ (⟨_, .move _, _, _, _, _⟩ :: _) _ _ _; refine awl_pw (wt_none rfl) (pv_move rfl rfl) rfl rfl ?_) | (show AWL _ _ _ (⟨_, .assign _, _, _, _, _⟩ :: _) _ _ _; refine awl_pw (wt_none rfl) (pv_assign rfl rfl) rfl rfl ?_) | (show AWL _ _ _ (⟨_, .binOp .lss _ _ _ _, _, _, _, _⟩ :: _) _ _ _; refine awl_pw (wt_none rfl) (pv_lss rfl rfl rfl) rfl rfl ?_) | refine awl_nil ?_)
  exact body_r (h' := [workE gw gm b cp, leftM gm (fL (numF b) (fun _ => 0))]) (.cons rfl .nil) (by solve | repeat' constructor) ⟨gw, gm, rfl, rfl⟩
theorem woff_p (cp : Bool) (b : BookD) (gw gm : Nat) (F : Arc → Int) (hl : b.cons.length ≤ 1000) : ACall Try.prog 57 [.v (ptrV gw)] [workE gw gm b cp, leftM gm F] (fun r h' => r = .t (intsT true ((List.range b.cons.length).map fun i => F (i, true))) ∧ h' = [workE gw gm b cp, leftM gm F]) := by
  refine acall_of_awp T0 Try.func57 rfl rfl rfl ?_
  repeat (first | refine awp_seq ?_ | refine awp_region_lit rfl ?_ | (show AWL _ _ _ (⟨_, .move _, _, _, _, _⟩ :: _) _ _ _; refine awl_pw (wt_none rfl) (pv_move rfl rfl) rfl rfl ?_) | (show AWL _ _ _ (⟨_, .assign _, _, _, _, _⟩ :: _) _ _ _; refine awl_pw (wt_none rfl) (pv_assign rfl rfl) rfl rfl ?_) | (show AWL _ _ _ (⟨_, .load _ _, _, _, _, _⟩ :: _) _ _ _; refine awl_lw (wt_none rfl) (lv_cl1 T0 rfl rfl rfl (by solve | repeat' constructor) (by first | rfl | assumption)) rfl rfl rfl ?_) | (show AWL _ _ _ (⟨_, .fieldAddr _ _ _, _, _, _, _⟩ :: _) _ _ _; refine awl_pw (wt_none rfl) (pv_fa T0 rfl rfl rfl (by simp; rfl)) rfl rfl ?_) | (show AWL _ _ _ (⟨_, .call ⟨.builtin .len, _, _⟩, _, _, _, _⟩ :: _) _ _ _; refine awl_pw (wt_none rfl) (pv_len_t T0 rfl rfl rfl) rfl rfl ?_) | (show AWL _ _ _ (⟨_, .nilCheck _, _, _, _, _⟩ :: _) _ _ _; refine awl_pw (wt_none rfl) (pv_nilCheck rfl rfl) rfl rfl ?_) | refine awl_nil ?_)
  refine awl_hw (wt_none rfl) (aop_make T0 rfl rfl rfl rfl rfl rfl rfl rfl (by omega) rfl ?_)
  intro ga
  repeat (first | refine awp_seq ?_ | refine awp_block ?_ | refine awp_region_lit rfl ?_ | (show AWL _ _ _ (⟨_, .move _, _, _, _, _⟩ :: _) _ _ _; refine awl_pw (wt_none rfl) (pv_move rfl rfl) rfl rfl ?_) | (show AWL _ _ _ (⟨_, .assign _, _, _, _, _⟩ :: _) _ _ _; refine awl_pw (wt_none rfl) (pv_assign rfl rfl) rfl rfl ?_) | (show AWL _ _ _ (⟨_, .call ⟨.builtin .len, _, _⟩, _, _, _, _⟩ :: _) _ _ _; refine awl_pw (wt_none rfl) (pv_len_v T0 rfl rfl rfl) rfl rfl ?_) | refine awl_nil ?_)
  have hz : List.replicate b.cons.length [AV.v (Value.int .i64 0)] = fRows (fun i => if i < 0 then F (i, true) else 0) b.cons.length := by
    refine List.ext_getElem (by simp [fRows]) fun k h1 h2 => ?_
    simp [fRows, intRow]
  rw [hz]
  refine awp_loop (fun m s h => ∃ (k : Nat), k ≤ b.cons.length ∧ m = b.cons.length - k ∧ s = [(0, .v (ptrV gw)), (3, .v (.slice (some ⟨ga, 0, none⟩) b.cons.length b.cons.length)), (13, intA b.cons.length), (14, intA k)] ∧ h = [workE gw gm b cp, leftM gm F, .rw (.slice (some ⟨ga, 0, none⟩) b.cons.length b.cons.length) 3 1 (fRows (fun i => if i < k then F (i, true) else 0) b.cons.length)]) ?_ ⟨0, Nat.zero_le _, rfl, rfl, rfl⟩ (by first | ((repeat' (first | exact True.intro | refine ⟨rfl, ?_⟩)); all_goals fail) | fail) (by solve | repeat' constructor)
  rintro m s h ⟨k, hk, rfl, rfl, rfl⟩
  by_cases hlt : k < b.cons.length
  · have r2 := fRows_len (fun i => if i < k then F (i, true) else 0) b.cons.length
    have hset := fRows_set (f := fun i => if i < k then F (i, true) else 0) (g := fun i => if i < k + 1 then F (i, true) else 0) (m := b.cons.length) (j := k) (v := F (k, true)) hlt (fun q hq => by
      by_cases e : q = k
      · subst e; rw [if_pos (Nat.lt_succ_self _), if_pos rfl]
      · rw [if_neg e]
        by_cases c : q < k
        · rw [if_pos c, if_pos (by omega)]
        · rw [if_neg c, if_neg (by omega)])
    repeat (first | refine awp_seq ?_ | refine awp_block ?_ | refine awp_region_lit rfl ?_ | refine awp_skip ?_ | refine awp_cond_t rfl (by first | rfl | assumption | exact dT (by omega)) ?_ | (show AWL _ _ _ (⟨_, .move _, _, _, _, _⟩ :: _) _ _ _; refine awl_pw (wt_none rfl) (pv_move rfl rfl) rfl rfl ?_) | (show AWL _ _ _ (⟨_, .assign _, _, _, _, _⟩ :: _) _ _ _; refine awl_pw (wt_none rfl) (pv_assign rfl rfl) rfl rfl ?_) | (show AWL _ _ _ (⟨_, .load _ _, _, _, _, _⟩ :: _) _ _ _; refine awl_lw (wt_none rfl) (lv_cl1 T0 rfl rfl rfl (by solve | repeat' constructor) (by first | rfl | assumption)) rfl rfl rfl ?_) | (show AWL _ _ _ (⟨_, .fieldAddr _ _ _, _, _, _, _⟩ :: _) _ _ _; refine awl_pw (wt_none rfl) (pv_fa T0 rfl rfl rfl (by simp; rfl)) rfl rfl ?_) | (show AWL _ _ _ (⟨_, .build _ _, _, _, _, _⟩ :: _) _ _ _; refine awl_pw (wt_none rfl) (pv_build T0 rfl rfl rfl (by simp only [Value.cells, List.toList_toArray, List.map_cons, List.map_nil]; rfl) (by first | ((repeat' (first | exact BParts.nil | apply BParts.cons | rfl)); all_goals fail) | fail) (by first | ((repeat' (first | exact FillA.nil | exact Sp.done | apply FillA.cons | apply Sp.put | apply Sp.skip | (simp only [cellsA]; rfl) | rfl)); all_goals fail) | fail)) rfl rfl ?_) | (show AWL _ _ _ (⟨_, .binOp .lss _ _ _ _, _, _, _, _⟩ :: _) _ _ _; refine awl_pw (wt_none rfl) (pv_lss rfl rfl rfl) rfl rfl ?_) | (show AWL _ _ _ (⟨_, .nilCheck _, _, _, _, _⟩ :: _) _ _ _; refine awl_pw (wt_none rfl) (pv_nilCheck rfl rfl) rfl rfl ?_) | refine awl_nil ?_)
    refine awl_lw (wt_none rfl) (lv_lookupF Ma (k := (k, true)) rfl rfl rfl rfl (by solve | repeat' constructor) rfl) rfl rfl rfl ?_
    repeat (first | (show AWL _ _ _ (⟨_, .indexAddr _ _ _, _, _, _, _⟩ :: _) _ _ _; refine awl_pw (wt_none rfl) (pv_ix_own T0 rfl rfl rfl rfl (by omega) (by first | exact Int.toNat_natCast _ | rfl)) rfl rfl ?_))
    refine awl_hw (wt_none rfl) (aop_store_rp T0 rfl rfl rfl rfl rfl rfl rfl rfl (by solve | repeat' constructor) (by first | omega | (simp; omega)) (by omega) rfl trivial ?_)
    simp only [cellsA]
    rw [hset]
    repeat (first | refine awp_region_lit rfl ?_ | (show AWL _ _ _ (⟨_, .move _, _, _, _, _⟩ :: _) _ _ _; refine awl_pw (wt_none rfl) (pv_move rfl rfl) rfl rfl ?_) | (show AWL _ _ _ (⟨_, .binOp .add _ _ _ _, _, _, _, _⟩ :: _) _ _ _; refine awl_pw (wt_none rfl) (pv_add rfl rfl rfl (by first | assumption | exact wr64 (by omega))) rfl rfl ?_) | refine awl_nil ?_)
    refine rnd_n _ _ _ ?_ ⟨k + 1, hlt, rfl, rfl, rfl⟩ (by first | ((repeat' (first | exact True.intro | refine ⟨rfl, ?_⟩)); all_goals fail) | fail) (by solve | repeat' constructor)
    omega
  obtain rfl : k = b.cons.length := by omega
  generalize hL : (List.range b.cons.length).map (fun i => F (i, true)) = L
  have hLl : L.length = b.cons.length := by rw [← hL]; simp
  have hLr : L = (List.range b.cons.length).map (fun i => if i < b.cons.length then F (i, true) else 0) := by
    rw [← hL]; exact List.map_congr_left fun i hi => by rw [if_pos (List.mem_range.1 hi)]
  refine awp_ghost (ghost_freeze (E := 3) (sz := 1) (n := L.length) (rows := fRows (fun i => if i < b.cons.length then F (i, true) else 0) b.cons.length) (d := 3) (fun q => [.sc (.int .i64 (L.getD q 0))]) (by solve | repeat' constructor) rfl (by rw [fRows_len, hLl]) (by rw [hLl]; exact fRows_tree hLr)) ?_
  repeat (first | refine awp_seq ?_ | refine awp_region_lit rfl ?_ | refine awp_exit ?_ | refine awp_ret ?_ | refine awp_cond_f rfl (by first | rfl | assumption | exact dF (by omega)) ?_ | (show AWL _ _ _ (⟨_, .move _, _, _, _, _⟩ :: _) _ _ _; refine awl_pw (wt_none rfl) (pv_move rfl rfl) rfl rfl ?_) | (show AWL _ _ _ (⟨_, .assign _, _, _, _, _⟩ :: _) _ _ _; refine awl_pw (wt_none rfl) (pv_assign rfl rfl) rfl rfl ?_) | (show AWL _ _ _ (⟨_, .binOp .lss _ _ _ _, _, _, _, _⟩ :: _) _ _ _; refine awl_pw (wt_none rfl) (pv_lss rfl rfl rfl) rfl rfl ?_) | refine awl_nil ?_)
  exact body_r (h' := [workE gw gm b cp, leftM gm F]) (.cons rfl .nil) (by solve | repeat' constructor) ⟨rfl, rfl⟩
theorem from_p (cp : Bool) (b : BookD) (gw gm i : Nat) (t : Bool) (hv : VBook b) (hi : i < b.cons.length) : ACall Try.prog 136 [.v (ptrV gw), .ag [intA i, boolA t]] [workE gw gm b cp] (fun r h' => r = intA (aF b (i, t) : Nat) ∧ h' = [workE gw gm b cp]) := by
  have hlen := hv.len
  have hf := hv.frm i hi
  have ht := hv.to i hi
  refine acall_of_awp T0 Try.func136 rfl rfl rfl ?_
  repeat (first | refine awp_seq ?_ | refine awp_region_lit rfl ?_)
  refine awl_hw (wt_none rfl) (st_box rfl rfl (by first | rfl | assumption) (by first | assumption | (simp only [cellsA]; rfl)) rfl rfl ?_)
  intro g3
  cases t
  · repeat (first | refine awp_seq ?_ | refine awp_region_lit rfl ?_ | refine awp_skip ?_ | with_reducible refine then_n ?_ | refine awp_cond_f rfl (by first | rfl | assumption | exact dF (by omega)) ?_ | (show AWL _ _ _ (⟨_, .assign _, _, _, _, _⟩ :: _) _ _ _; refine awl_pw (wt_none rfl) (pv_assign rfl rfl) rfl rfl ?_) | (show AWL _ _ _ (⟨_, .load _ _, _, _, _, _⟩ :: _) _ _ _; refine awl_lw (wt_none rfl) (lv_cl1 T0 rfl rfl rfl (by solve | repeat' constructor) (by first | rfl | assumption)) rfl rfl rfl ?_) | (show AWL _ _ _ (⟨_, .fieldAddr _ _ _, _, _, _, _⟩ :: _) _ _ _; refine awl_pw (wt_none rfl) (pv_fa T0 rfl rfl rfl (by simp; rfl)) rfl rfl ?_) | refine awl_nil ?_)
    refine awp_tree T0 [(0, 0), (1, 0), (2, 0), (3, 0), (4, 1), (5, 0), (6, 1), (7, 0), (8, 0), (9, 1), (10, 0)] (.op 0 0 (.op 1 0 (.op 2 0 (.op 3 0 (.op 4 1 (.op 5 0 (.op 6 1 (.op 7 0 (.op 8 0 (.op 9 1 (.op 10 0 .stop))))))))))) _ rfl (by kernel_rfl) (SubH.refl _) ?_
    refine awt_po rfl (wt_none rfl) (pv_move rfl rfl) rfl rfl ?_
    refine awt_po rfl (wt_none rfl) (pv_nilCheck rfl rfl) rfl rfl ?_
    refine awt_po rfl (wt_none rfl) (pv_fa T0 rfl rfl rfl (by simp; rfl)) rfl rfl ?_
    refine awt_po rfl (wt_none rfl) (pv_fa T0 rfl rfl rfl (by simp; rfl)) rfl rfl ?_
    refine awt_lo rfl (wt_none rfl) (lv_cl1 T0 rfl rfl rfl (by solve | repeat' constructor) (by first | rfl | assumption)) rfl rfl rfl ?_
    refine awt_po rfl (wt_none rfl) (pv_fa T0 rfl rfl rfl (by simp; rfl)) rfl rfl ?_
    refine awt_lo rfl (wt_none rfl) (lv_cl1 T0 rfl rfl rfl (by solve | repeat' constructor) (by first | rfl | assumption)) rfl rfl rfl ?_
    refine awt_po rfl (wt_none rfl) (pv_ix_t T0 rfl rfl rfl rfl (by omega) (by first | exact Int.toNat_natCast _ | rfl)) rfl rfl ?_
    refine awt_po rfl (wt_none rfl) (pv_fa_elt T0 rfl rfl rfl (by simp; rfl)) rfl rfl ?_
    refine awt_lo rfl (wt_none rfl) (lv_elt_sc T0 rfl rfl rfl rfl) rfl rfl rfl ?_
    refine awt_po rfl (wt_none rfl) (pv_assign rfl rfl) rfl rfl ?_
    refine awt_end ?_
    repeat (first | refine awp_ret ?_)
    refine body_r (h' := [workE gw gm b cp]) (.cons rfl .nil) (by solve | repeat' constructor) ⟨?_, rfl⟩
    show intA (b.cons.getD i default).frm = intA ((b.cons.getD i default).frm.toNat : Int)
    rw [Int.toNat_of_nonneg hf.1]
  · repeat (first | refine awp_seq ?_ | refine awp_region_lit rfl ?_ | with_reducible refine then_n ?_ | refine awp_cond_t rfl (by first | rfl | assumption | exact dT (by omega)) ?_ | (show AWL _ _ _ (⟨_, .assign _, _, _, _, _⟩ :: _) _ _ _; refine awl_pw (wt_none rfl) (pv_assign rfl rfl) rfl rfl ?_) | (show AWL _ _ _ (⟨_, .load _ _, _, _, _, _⟩ :: _) _ _ _; refine awl_lw (wt_none rfl) (lv_cl1 T0 rfl rfl rfl (by solve | repeat' constructor) (by first | rfl | assumption)) rfl rfl rfl ?_) | (show AWL _ _ _ (⟨_, .fieldAddr _ _ _, _, _, _, _⟩ :: _) _ _ _; refine awl_pw (wt_none rfl) (pv_fa T0 rfl rfl rfl (by simp; rfl)) rfl rfl ?_) | refine awl_nil ?_)
    refine awp_tree T0 [(0, 0), (1, 0), (2, 0), (3, 0), (4, 1), (5, 0), (6, 1), (7, 0), (8, 0), (9, 1), (10, 0)] (.op 0 0 (.op 1 0 (.op 2 0 (.op 3 0 (.op 4 1 (.op 5 0 (.op 6 1 (.op 7 0 (.op 8 0 (.op 9 1 (.op 10 0 .stop))))))))))) _ rfl (by kernel_rfl) (SubH.refl _) ?_
    refine awt_po rfl (wt_none rfl) (pv_move rfl rfl) rfl rfl ?_
    refine awt_po rfl (wt_none rfl) (pv_nilCheck rfl rfl) rfl rfl ?_
    refine awt_po rfl (wt_none rfl) (pv_fa T0 rfl rfl rfl (by simp; rfl)) rfl rfl ?_
    refine awt_po rfl (wt_none rfl) (pv_fa T0 rfl rfl rfl (by simp; rfl)) rfl rfl ?_
    refine awt_lo rfl (wt_none rfl) (lv_cl1 T0 rfl rfl rfl (by solve | repeat' constructor) (by first | rfl | assumption)) rfl rfl rfl ?_
    refine awt_po rfl (wt_none rfl) (pv_fa T0 rfl rfl rfl (by simp; rfl)) rfl rfl ?_
    refine awt_lo rfl (wt_none rfl) (lv_cl1 T0 rfl rfl rfl (by solve | repeat' constructor) (by first | rfl | assumption)) rfl rfl rfl ?_
    refine awt_po rfl (wt_none rfl) (pv_ix_t T0 rfl rfl rfl rfl (by omega) (by first | exact Int.toNat_natCast _ | rfl)) rfl rfl ?_
    refine awt_po rfl (wt_none rfl) (pv_fa_elt T0 rfl rfl rfl (by simp; rfl)) rfl rfl ?_
    refine awt_lo rfl (wt_none rfl) (lv_elt_sc T0 rfl rfl rfl rfl) rfl rfl rfl ?_
    refine awt_po rfl (wt_none rfl) (pv_assign rfl rfl) rfl rfl ?_
    refine awt_end ?_
    repeat (first | refine awp_ret ?_ | with_reducible refine then_r ?_)
    refine body_r (h' := [workE gw gm b cp]) (.cons rfl .nil) (by solve | repeat' constructor) ⟨?_, rfl⟩
    show intA (b.cons.getD i default).to = intA ((b.cons.getD i default).to.toNat : Int)
    rw [Int.toNat_of_nonneg ht.1]
theorem arcs_p (gw : Nat) : ACall Try.prog 137 [.v (ptrV gw)] [] (fun r h' => ∃ gb, r = .v (.func (.func 176) #[] #[ptrV gb]) ∧ h' = [.cl gb 167 [.v (ptrV gw)]]) := by
  refine acall_of_awp T0 Try.func137 rfl rfl rfl ?_
  repeat (first | refine awp_seq ?_ | refine awp_region_lit rfl ?_)
  refine awl_hw (wt_none rfl) (st_box rfl rfl (by first | rfl | assumption) (by first | assumption | (simp only [cellsA]; rfl)) rfl rfl ?_)
  intro gb
  repeat (first | refine awp_seq ?_ | refine awp_region_lit rfl ?_ | (show AWL _ _ _ (⟨_, .assign _, _, _, _, _⟩ :: _) _ _ _; refine awl_pw (wt_none rfl) (pv_assign rfl rfl) rfl rfl ?_) | refine awl_nil ?_)
  refine awl_pw (wt_none rfl) (pv_makeFunc_v (fs := []) (cs := [ptrV gb]) rfl rfl rfl) rfl rfl ?_
  repeat (first | refine awp_ret ?_ | (show AWL _ _ _ (⟨_, .assign _, _, _, _, _⟩ :: _) _ _ _; refine awl_pw (wt_none rfl) (pv_assign rfl rfl) rfl rfl ?_) | refine awl_nil ?_)
  exact body_r (h' := [.cl gb 167 [.v (ptrV gw)]]) (.cons rfl .nil) (by solve | repeat' constructor) ⟨gb, rfl, rfl⟩
end Go.Proofs.Ytlpknbneilgjkaa.R
end
section
namespace Go.Proofs.Ytlpknbneilgjkaa.R
open Go Go.RowKit Go.Tl
set_option linter.unusedVariables false
set_option linter.unusedSimpArgs false
set_option maxRecDepth 100000
set_option maxHeartbeats 4000000
theorem subh_left : ∀ (l m : List Ent), SubH l (l ++ m)
  | [], _ => .nil
  | _ :: l, m => .cons .here (subh_left l m)
attribute [local irreducible] AWP AWL AOp PV LV AWT AWE
abbrev arcV (a : Arc) : AV := .ag [intA (a.1 : Nat), boolA a.2]
abbrev endV (b : BookD) (a : Arc) : AV := .ag [intA (aF b a : Nat), intA (aT b a : Nat), intA (aC a)]
def arcRow (b : BookD) (a : Arc) : List AV := [arcV a, endV b a]
def PreA (b : BookD) (F : Arc → Int) (L : List (List AV)) : Prop := ∃ l : List Arc, L = l.map (arcRow b) ∧ ∀ a ∈ l, a ∈ arcsL F b.cons.length
def FullA (b : BookD) (F : Arc → Int) (L : List (List AV)) : Prop := L = (arcsL F b.cons.length).map (arcRow b)
abbrev hcA (gb gw gm : Nat) (b : BookD) (cp : Bool) (F : Arc → Int) : List Ent := [.cl gb 167 [.v (ptrV gw)], workE gw gm b cp, leftM gm F]
abbrev arS (l gb : Nat) (u11 u12 : AV) (k : Nat) : Slots := [(0, .v (.func (.yield l) #[] #[])), (1, .v (ptrV gb)), (11, u11), (12, u12), (13, intA k)]
section
variable {b : BookD} {k g4 g5 g6 gb gw gm l : Nat} {cp : Bool} {u11 u12 : AV} {F : Arc → Int} {o : Ob} {c : ConD} {C1 : Ob → Prop} {X1 : List Ent → Prop} {v : Int}
theorem ar_4n (hF : F (k, false) = v) (hv : decide (0 < v) = false) {ops : Array Oper} (h : regF Try.f176 4 = some ops) :
    AWP Try.prog Try.f176.ntmps none (.region 4 ops true) (cutQ (fun s h => s = (37, boolA false) :: (3, intA k) :: (4, .v (ptrV g4)) :: arS l gb u11 u12 k ∧ h = .ob o :: (hcA gb gw gm b cp F ++ [.cl g4 164 [intA c.frm, intA c.to, intA c.num, intA c.price]])))
      ((3, intA k) :: (4, .v (ptrV g4)) :: (5, .v (ptrV g5)) :: arS l gb u11 u12 k) (.ob o :: (hcA gb gw gm b cp F ++ [.cl g4 164 [intA c.frm, intA c.to, intA c.num, intA c.price], .cl g5 232 [intA k, boolA false]])) := by
  cases h
  subst hF
  simp only [List.cons_append, List.nil_append]
  refine awp_treeN T0 [(0, 1), (1, 0), (2, 0), (3, 1), (4, 1), (5, 1), (6, 0), (7, 0), (8, 0), (9, 1), (10, 0), (11, 1), (12, 0), (13, 1), (14, 0), (15, 3), (16, 0), (17, 0)] (.op 0 1 (.op 1 0 (.op 2 0 (.op 3 1 (.op 4 1 (.op 5 1 (.op 6 0 (.op 7 0 (.op 8 0 (.op 9 1 (.op 10 0 (.op 11 1 (.op 12 0 (.op 13 1 (.op 14 0 (.op 15 3 (.op 16 0 (.op 17 0 .stop)))))))))))))))))) [.cl gb _ _, .cl gw _ _, leftM gm F, .cl g5 _ _] rfl (by kernel_rfl) (by solve | repeat' constructor) ?_
  refine awt_lo rfl (wt_none rfl) (lv_cl1 T0 rfl rfl rfl (by solve | repeat' constructor) (by first | rfl | assumption)) rfl rfl rfl ?_
  refine awt_po rfl (wt_none rfl) (pv_nilCheck rfl rfl) rfl rfl ?_
  refine awt_po rfl (wt_none rfl) (pv_fa T0 rfl rfl rfl (by simp; rfl)) rfl rfl ?_
  refine awt_lo rfl (wt_none rfl) (lv_cl1 T0 rfl rfl rfl (by solve | repeat' constructor) (by first | rfl | assumption)) rfl rfl rfl ?_
  refine awt_lo rfl (wt_none rfl) (lv_cla T0 rfl rfl rfl (by solve | repeat' constructor) rfl) rfl rfl rfl ?_
  refine awt_lo rfl (wt_none rfl) (lv_lookupF Ma (k := (k, false)) rfl rfl rfl rfl (by solve | repeat' constructor) rfl) rfl rfl rfl ?_
  refine awt_po rfl (wt_none rfl) (pv_gtr rfl rfl rfl) rfl rfl ?_
  refine awt_po rfl (wt_none rfl) (pv_move rfl rfl) rfl rfl ?_
  refine awt_sk0 rfl (wf_some rfl rfl rfl rfl (by first | rfl | assumption | exact dT (by omega) | exact dF (by omega))) rfl rfl (fun _ _ h => h) rfl ?_
  refine awt_sk1 rfl (wf_some rfl rfl rfl rfl (by first | rfl | assumption | exact dT (by omega) | exact dF (by omega))) rfl rfl (fun _ _ h => h) rfl ?_
  refine awt_sk0 rfl (wf_some rfl rfl rfl rfl (by first | rfl | assumption | exact dT (by omega) | exact dF (by omega))) rfl rfl (fun _ _ h => h) rfl ?_
  refine awt_sk1 rfl (wf_some rfl rfl rfl rfl (by first | rfl | assumption | exact dT (by omega) | exact dF (by omega))) rfl rfl (fun _ _ h => h) rfl ?_
  refine awt_sk0 rfl (wf_some rfl rfl rfl rfl (by first | rfl | assumption | exact dT (by omega) | exact dF (by omega))) rfl rfl (fun _ _ h => h) rfl ?_
  refine awt_sk1 rfl (wf_some rfl rfl rfl rfl (by first | rfl | assumption | exact dT (by omega) | exact dF (by omega))) rfl rfl (fun _ _ h => h) rfl ?_
  refine awt_sk0 rfl (wf_some rfl rfl rfl rfl (by first | rfl | assumption | exact dT (by omega) | exact dF (by omega))) rfl rfl (fun _ _ h => h) rfl ?_
  refine awt_sk3 rfl (wf_some rfl rfl rfl rfl (by first | rfl | assumption | exact dT (by omega) | exact dF (by omega))) rfl rfl ?_
  first
    | refine awe_p rfl (wt_some' rfl rfl rfl rfl (by first | rfl | assumption | exact dT (by omega) | exact dF (by omega))) (pv_not rfl rfl) rfl rfl ?_
    | refine awe_sku rfl (wu_some rfl rfl rfl rfl) rfl rfl ?_
    | refine awe_sk rfl (wf_some rfl rfl rfl rfl (by first | rfl | assumption | exact dT (by omega) | exact dF (by omega))) rfl rfl ?_
  first
    | refine awe_p rfl (wt_none rfl) (pv_pick_t rfl rfl (by first | rfl | assumption | exact dT (by omega) | exact dF (by omega)) rfl) rfl rfl ?_
    | refine awe_p rfl (wt_none rfl) (pv_pick_f rfl rfl (by first | rfl | assumption | exact dT (by omega) | exact dF (by omega)) rfl) rfl rfl ?_
  refine awe_end ?_
  exact cut_n ⟨rfl, rfl⟩ (by first | ((repeat' (first | exact True.intro | refine ⟨rfl, ?_⟩)); all_goals fail) | fail) (by solve | repeat' constructor)
theorem ar_4y (hF : F (k, false) = v) (hv : decide (0 < v) = true) (hy : YCall Try.prog l [.ag [intA k, boolA false], .ag [intA c.frm, intA c.to, intA (-1)]] (.ob o :: hcA gb gw gm b cp F) (fun r h' => ∃ rb, r = boolA rb ∧ ((rb = true ∧ ∃ o', h' = .ob o' :: hcA gb gw gm b cp F ∧ C1 o') ∨ (rb = false ∧ X1 h')))) {ops : Array Oper} (h : regF Try.f176 4 = some ops) :
    AWP Try.prog Try.f176.ntmps none (.region 4 ops true) (cutQ (fun s h => (∃ o1, C1 o1 ∧ s = (37, boolA false) :: (3, intA k) :: (4, .v (ptrV g4)) :: arS l gb u11 u12 k ∧ h = .ob o1 :: (hcA gb gw gm b cp F ++ [.cl g4 164 [intA c.frm, intA c.to, intA c.num, intA c.price]])) ∨ (X1 h ∧ s = [(37, boolA true)])))
      ((3, intA k) :: (4, .v (ptrV g4)) :: (5, .v (ptrV g5)) :: arS l gb u11 u12 k) (.ob o :: (hcA gb gw gm b cp F ++ [.cl g4 164 [intA c.frm, intA c.to, intA c.num, intA c.price], .cl g5 232 [intA k, boolA false]])) := by
  cases h
  subst hF
  refine awp_treeN T0 [(0, 1), (1, 0), (2, 0), (3, 1), (4, 1), (5, 1), (6, 0), (7, 0), (8, 0), (9, 1), (10, 0), (11, 1), (12, 0), (13, 1), (14, 0), (15, 3), (16, 0), (17, 0)] (.op 0 1 (.op 1 0 (.op 2 0 (.op 3 1 (.op 4 1 (.op 5 1 (.op 6 0 (.op 7 0 (.op 8 0 (.op 9 1 (.op 10 0 (.op 11 1 (.op 12 0 (.op 13 1 (.op 14 0 (.op 15 3 (.op 16 0 (.op 17 0 .stop)))))))))))))))))) [.cl gb _ _, .cl gw _ _, leftM gm F, .cl g4 _ _, .cl g5 _ _] rfl (by kernel_rfl) (by solve | repeat' constructor) ?_
  refine awt_lo rfl (wt_none rfl) (lv_cl1 T0 rfl rfl rfl (by solve | repeat' constructor) (by first | rfl | assumption)) rfl rfl rfl ?_
  refine awt_po rfl (wt_none rfl) (pv_nilCheck rfl rfl) rfl rfl ?_
  refine awt_po rfl (wt_none rfl) (pv_fa T0 rfl rfl rfl (by simp; rfl)) rfl rfl ?_
  refine awt_lo rfl (wt_none rfl) (lv_cl1 T0 rfl rfl rfl (by solve | repeat' constructor) (by first | rfl | assumption)) rfl rfl rfl ?_
  refine awt_lo rfl (wt_none rfl) (lv_cla T0 rfl rfl rfl (by solve | repeat' constructor) rfl) rfl rfl rfl ?_
  refine awt_lo rfl (wt_none rfl) (lv_lookupF Ma (k := (k, false)) rfl rfl rfl rfl (by solve | repeat' constructor) rfl) rfl rfl rfl ?_
  refine awt_po rfl (wt_none rfl) (pv_gtr rfl rfl rfl) rfl rfl ?_
  refine awt_po rfl (wt_none rfl) (pv_move rfl rfl) rfl rfl ?_
  refine awt_po rfl (wt_some' rfl rfl rfl rfl (by first | rfl | assumption | exact dT (by omega) | exact dF (by omega))) (pv_move rfl rfl) rfl rfl ?_
  refine awt_lo rfl (wt_some' rfl rfl rfl rfl (by first | rfl | assumption | exact dT (by omega) | exact dF (by omega))) (lv_cla T0 rfl rfl rfl (by solve | repeat' constructor) rfl) rfl rfl rfl ?_
  refine awt_po rfl (wt_some' rfl rfl rfl rfl (by first | rfl | assumption | exact dT (by omega) | exact dF (by omega))) (pv_fa T0 rfl rfl rfl (by simp; rfl)) rfl rfl ?_
  refine awt_lo rfl (wt_some' rfl rfl rfl rfl (by first | rfl | assumption | exact dT (by omega) | exact dF (by omega))) (lv_cl1 T0 rfl rfl rfl (by solve | repeat' constructor) (by first | rfl | assumption)) rfl rfl rfl ?_
  refine awt_po rfl (wt_some' rfl rfl rfl rfl (by first | rfl | assumption | exact dT (by omega) | exact dF (by omega))) (pv_fa T0 rfl rfl rfl (by simp; rfl)) rfl rfl ?_
  refine awt_lo rfl (wt_some' rfl rfl rfl rfl (by first | rfl | assumption | exact dT (by omega) | exact dF (by omega))) (lv_cl1 T0 rfl rfl rfl (by solve | repeat' constructor) (by first | rfl | assumption)) rfl rfl rfl ?_
  refine awt_po rfl (wt_some' rfl rfl rfl rfl (by first | rfl | assumption | exact dT (by omega) | exact dF (by omega))) (pv_build_arr T0 rfl rfl rfl (by simp only [Value.cells, List.toList_toArray, List.map_cons, List.map_nil]; rfl) (by first | ((repeat' (first | exact BParts.nil | apply BParts.cons | rfl)); all_goals fail) | fail) (by first | ((repeat' (first | exact FillA.nil | exact Sp.done | apply FillA.cons | apply Sp.put | apply Sp.skip | (simp only [cellsA]; rfl) | rfl)); all_goals fail) | fail)) rfl rfl ?_
  refine awt_s (md := fun _ => True) rfl (wt_some' rfl rfl rfl rfl (by first | rfl | assumption | exact dT (by omega) | exact dF (by omega))) (aop_ycall (hy) rfl rfl rfl rfl (by solve | repeat' constructor) (by first | ((repeat' (first | exact SubH.refl _ | apply SubH.cons | exact Pick.here | apply Pick.there)); all_goals fail) | fail) (fun _ _ => trivial) ?_)
  rintro r h' ⟨rb, rfl, hq⟩
  first
    | refine awe_p rfl (wt_some' rfl rfl rfl rfl (by first | rfl | assumption | exact dT (by omega) | exact dF (by omega))) (pv_not rfl rfl) rfl rfl ?_
    | refine awe_sku rfl (wu_some rfl rfl rfl rfl) rfl rfl ?_
    | refine awe_sk rfl (wf_some rfl rfl rfl rfl (by first | rfl | assumption | exact dT (by omega) | exact dF (by omega))) rfl rfl ?_
  first
    | refine awe_p rfl (wt_none rfl) (pv_pick_t rfl rfl (by first | rfl | assumption | exact dT (by omega) | exact dF (by omega)) rfl) rfl rfl ?_
    | refine awe_p rfl (wt_none rfl) (pv_pick_f rfl rfl (by first | rfl | assumption | exact dT (by omega) | exact dF (by omega)) rfl) rfl rfl ?_
  refine awe_end ?_
  rcases hq with ⟨rfl, o1, rfl, hC1⟩ | ⟨rfl, hX1⟩
  · exact cut_n (.inl ⟨o1, hC1, rfl, rfl⟩) (by first | ((repeat' (first | exact True.intro | refine ⟨rfl, ?_⟩)); all_goals fail) | fail) (by solve | repeat' constructor)
  · exact cut_n (.inr ⟨hX1, rfl⟩) (by first | ((repeat' (first | exact True.intro | refine ⟨rfl, ?_⟩)); all_goals fail) | fail) (subh_left _ _)
theorem ar_6n (hF : F (k, true) = v) (hv : decide (0 < v) = false) {ops : Array Oper} (h : regF Try.f176 6 = some ops) :
    AWP Try.prog Try.f176.ntmps none (.region 6 ops true) (cutQ (fun s h => s = (57, boolA false) :: arS l gb u11 u12 k ∧ h = .ob o :: hcA gb gw gm b cp F))
      ((3, intA k) :: (4, .v (ptrV g4)) :: (6, .v (ptrV g6)) :: arS l gb u11 u12 k) (.ob o :: (hcA gb gw gm b cp F ++ [.cl g4 164 [intA c.frm, intA c.to, intA c.num, intA c.price], .cl g6 232 [intA k, boolA true]])) := by
  cases h
  subst hF
  simp only [List.cons_append, List.nil_append]
  refine awp_treeN T0 [(0, 1), (1, 0), (2, 0), (3, 1), (4, 1), (5, 1), (6, 0), (7, 0), (8, 0), (9, 1), (10, 0), (11, 1), (12, 0), (13, 1), (14, 0), (15, 3), (16, 0), (17, 0)] (.op 0 1 (.op 1 0 (.op 2 0 (.op 3 1 (.op 4 1 (.op 5 1 (.op 6 0 (.op 7 0 (.op 8 0 (.op 9 1 (.op 10 0 (.op 11 1 (.op 12 0 (.op 13 1 (.op 14 0 (.op 15 3 (.op 16 0 (.op 17 0 .stop)))))))))))))))))) [.cl gb _ _, .cl gw _ _, leftM gm F, .cl g6 _ _] rfl (by kernel_rfl) (by solve | repeat' constructor) ?_
  refine awt_lo rfl (wt_none rfl) (lv_cl1 T0 rfl rfl rfl (by solve | repeat' constructor) (by first | rfl | assumption)) rfl rfl rfl ?_
  refine awt_po rfl (wt_none rfl) (pv_nilCheck rfl rfl) rfl rfl ?_
  refine awt_po rfl (wt_none rfl) (pv_fa T0 rfl rfl rfl (by simp; rfl)) rfl rfl ?_
  refine awt_lo rfl (wt_none rfl) (lv_cl1 T0 rfl rfl rfl (by solve | repeat' constructor) (by first | rfl | assumption)) rfl rfl rfl ?_
  refine awt_lo rfl (wt_none rfl) (lv_cla T0 rfl rfl rfl (by solve | repeat' constructor) rfl) rfl rfl rfl ?_
  refine awt_lo rfl (wt_none rfl) (lv_lookupF Ma (k := (k, true)) rfl rfl rfl rfl (by solve | repeat' constructor) rfl) rfl rfl rfl ?_
  refine awt_po rfl (wt_none rfl) (pv_gtr rfl rfl rfl) rfl rfl ?_
  refine awt_po rfl (wt_none rfl) (pv_move rfl rfl) rfl rfl ?_
  refine awt_sk0 rfl (wf_some rfl rfl rfl rfl (by first | rfl | assumption | exact dT (by omega) | exact dF (by omega))) rfl rfl (fun _ _ h => h) rfl ?_
  refine awt_sk1 rfl (wf_some rfl rfl rfl rfl (by first | rfl | assumption | exact dT (by omega) | exact dF (by omega))) rfl rfl (fun _ _ h => h) rfl ?_
  refine awt_sk0 rfl (wf_some rfl rfl rfl rfl (by first | rfl | assumption | exact dT (by omega) | exact dF (by omega))) rfl rfl (fun _ _ h => h) rfl ?_
  refine awt_sk1 rfl (wf_some rfl rfl rfl rfl (by first | rfl | assumption | exact dT (by omega) | exact dF (by omega))) rfl rfl (fun _ _ h => h) rfl ?_
  refine awt_sk0 rfl (wf_some rfl rfl rfl rfl (by first | rfl | assumption | exact dT (by omega) | exact dF (by omega))) rfl rfl (fun _ _ h => h) rfl ?_
  refine awt_sk1 rfl (wf_some rfl rfl rfl rfl (by first | rfl | assumption | exact dT (by omega) | exact dF (by omega))) rfl rfl (fun _ _ h => h) rfl ?_
  refine awt_sk0 rfl (wf_some rfl rfl rfl rfl (by first | rfl | assumption | exact dT (by omega) | exact dF (by omega))) rfl rfl (fun _ _ h => h) rfl ?_
  refine awt_sk3 rfl (wf_some rfl rfl rfl rfl (by first | rfl | assumption | exact dT (by omega) | exact dF (by omega))) rfl rfl ?_
  first
    | refine awe_p rfl (wt_some' rfl rfl rfl rfl (by first | rfl | assumption | exact dT (by omega) | exact dF (by omega))) (pv_not rfl rfl) rfl rfl ?_
    | refine awe_sku rfl (wu_some rfl rfl rfl rfl) rfl rfl ?_
    | refine awe_sk rfl (wf_some rfl rfl rfl rfl (by first | rfl | assumption | exact dT (by omega) | exact dF (by omega))) rfl rfl ?_
  first
    | refine awe_p rfl (wt_none rfl) (pv_pick_t rfl rfl (by first | rfl | assumption | exact dT (by omega) | exact dF (by omega)) rfl) rfl rfl ?_
    | refine awe_p rfl (wt_none rfl) (pv_pick_f rfl rfl (by first | rfl | assumption | exact dT (by omega) | exact dF (by omega)) rfl) rfl rfl ?_
  refine awe_end ?_
  exact cut_n ⟨rfl, rfl⟩ (by first | ((repeat' (first | exact True.intro | refine ⟨rfl, ?_⟩)); all_goals fail) | fail) (by solve | repeat' constructor)
theorem ar_6y (hF : F (k, true) = v) (hv : decide (0 < v) = true) (hy : YCall Try.prog l [.ag [intA k, boolA true], .ag [intA c.to, intA c.frm, intA 1]] (.ob o :: hcA gb gw gm b cp F) (fun r h' => ∃ rb, r = boolA rb ∧ ((rb = true ∧ ∃ o', h' = .ob o' :: hcA gb gw gm b cp F ∧ C1 o') ∨ (rb = false ∧ X1 h')))) {ops : Array Oper} (h : regF Try.f176 6 = some ops) :
    AWP Try.prog Try.f176.ntmps none (.region 6 ops true) (cutQ (fun s h => (∃ o1, C1 o1 ∧ s = (57, boolA false) :: arS l gb u11 u12 k ∧ h = .ob o1 :: hcA gb gw gm b cp F) ∨ (X1 h ∧ s = [(57, boolA true)])))
      ((3, intA k) :: (4, .v (ptrV g4)) :: (6, .v (ptrV g6)) :: arS l gb u11 u12 k) (.ob o :: (hcA gb gw gm b cp F ++ [.cl g4 164 [intA c.frm, intA c.to, intA c.num, intA c.price], .cl g6 232 [intA k, boolA true]])) := by
  cases h
  subst hF
  refine awp_treeN T0 [(0, 1), (1, 0), (2, 0), (3, 1), (4, 1), (5, 1), (6, 0), (7, 0), (8, 0), (9, 1), (10, 0), (11, 1), (12, 0), (13, 1), (14, 0), (15, 3), (16, 0), (17, 0)] (.op 0 1 (.op 1 0 (.op 2 0 (.op 3 1 (.op 4 1 (.op 5 1 (.op 6 0 (.op 7 0 (.op 8 0 (.op 9 1 (.op 10 0 (.op 11 1 (.op 12 0 (.op 13 1 (.op 14 0 (.op 15 3 (.op 16 0 (.op 17 0 .stop)))))))))))))))))) [.cl gb _ _, .cl gw _ _, leftM gm F, .cl g4 _ _, .cl g6 _ _] rfl (by kernel_rfl) (by solve | repeat' constructor) ?_
  refine awt_lo rfl (wt_none rfl) (lv_cl1 T0 rfl rfl rfl (by solve | repeat' constructor) (by first | rfl | assumption)) rfl rfl rfl ?_
  refine awt_po rfl (wt_none rfl) (pv_nilCheck rfl rfl) rfl rfl ?_
  refine awt_po rfl (wt_none rfl) (pv_fa T0 rfl rfl rfl (by simp; rfl)) rfl rfl ?_
  refine awt_lo rfl (wt_none rfl) (lv_cl1 T0 rfl rfl rfl (by solve | repeat' constructor) (by first | rfl | assumption)) rfl rfl rfl ?_
  refine awt_lo rfl (wt_none rfl) (lv_cla T0 rfl rfl rfl (by solve | repeat' constructor) rfl) rfl rfl rfl ?_
  refine awt_lo rfl (wt_none rfl) (lv_lookupF Ma (k := (k, true)) rfl rfl rfl rfl (by solve | repeat' constructor) rfl) rfl rfl rfl ?_
  refine awt_po rfl (wt_none rfl) (pv_gtr rfl rfl rfl) rfl rfl ?_
  refine awt_po rfl (wt_none rfl) (pv_move rfl rfl) rfl rfl ?_
  refine awt_po rfl (wt_some' rfl rfl rfl rfl (by first | rfl | assumption | exact dT (by omega) | exact dF (by omega))) (pv_move rfl rfl) rfl rfl ?_
  refine awt_lo rfl (wt_some' rfl rfl rfl rfl (by first | rfl | assumption | exact dT (by omega) | exact dF (by omega))) (lv_cla T0 rfl rfl rfl (by solve | repeat' constructor) rfl) rfl rfl rfl ?_
  refine awt_po rfl (wt_some' rfl rfl rfl rfl (by first | rfl | assumption | exact dT (by omega) | exact dF (by omega))) (pv_fa T0 rfl rfl rfl (by simp; rfl)) rfl rfl ?_
  refine awt_lo rfl (wt_some' rfl rfl rfl rfl (by first | rfl | assumption | exact dT (by omega) | exact dF (by omega))) (lv_cl1 T0 rfl rfl rfl (by solve | repeat' constructor) (by first | rfl | assumption)) rfl rfl rfl ?_
  refine awt_po rfl (wt_some' rfl rfl rfl rfl (by first | rfl | assumption | exact dT (by omega) | exact dF (by omega))) (pv_fa T0 rfl rfl rfl (by simp; rfl)) rfl rfl ?_
  refine awt_lo rfl (wt_some' rfl rfl rfl rfl (by first | rfl | assumption | exact dT (by omega) | exact dF (by omega))) (lv_cl1 T0 rfl rfl rfl (by solve | repeat' constructor) (by first | rfl | assumption)) rfl rfl rfl ?_
  refine awt_po rfl (wt_some' rfl rfl rfl rfl (by first | rfl | assumption | exact dT (by omega) | exact dF (by omega))) (pv_build_arr T0 rfl rfl rfl (by simp only [Value.cells, List.toList_toArray, List.map_cons, List.map_nil]; rfl) (by first | ((repeat' (first | exact BParts.nil | apply BParts.cons | rfl)); all_goals fail) | fail) (by first | ((repeat' (first | exact FillA.nil | exact Sp.done | apply FillA.cons | apply Sp.put | apply Sp.skip | (simp only [cellsA]; rfl) | rfl)); all_goals fail) | fail)) rfl rfl ?_
  refine awt_s (md := fun _ => True) rfl (wt_some' rfl rfl rfl rfl (by first | rfl | assumption | exact dT (by omega) | exact dF (by omega))) (aop_ycall (hy) rfl rfl rfl rfl (by solve | repeat' constructor) (by first | ((repeat' (first | exact SubH.refl _ | apply SubH.cons | exact Pick.here | apply Pick.there)); all_goals fail) | fail) (fun _ _ => trivial) ?_)
  rintro r h' ⟨rb, rfl, hq⟩
  first
    | refine awe_p rfl (wt_some' rfl rfl rfl rfl (by first | rfl | assumption | exact dT (by omega) | exact dF (by omega))) (pv_not rfl rfl) rfl rfl ?_
    | refine awe_sku rfl (wu_some rfl rfl rfl rfl) rfl rfl ?_
    | refine awe_sk rfl (wf_some rfl rfl rfl rfl (by first | rfl | assumption | exact dT (by omega) | exact dF (by omega))) rfl rfl ?_
  first
    | refine awe_p rfl (wt_none rfl) (pv_pick_t rfl rfl (by first | rfl | assumption | exact dT (by omega) | exact dF (by omega)) rfl) rfl rfl ?_
    | refine awe_p rfl (wt_none rfl) (pv_pick_f rfl rfl (by first | rfl | assumption | exact dT (by omega) | exact dF (by omega)) rfl) rfl rfl ?_
  refine awe_end ?_
  rcases hq with ⟨rfl, o1, rfl, hC1⟩ | ⟨rfl, hX1⟩
  · exact cut_n (.inl ⟨o1, hC1, rfl, rfl⟩) (by first | ((repeat' (first | exact True.intro | refine ⟨rfl, ?_⟩)); all_goals fail) | fail) (by solve | repeat' constructor)
  · exact cut_n (.inr ⟨hX1, rfl⟩) (by first | ((repeat' (first | exact True.intro | refine ⟨rfl, ?_⟩)); all_goals fail) | fail) (subh_left _ _)
end
theorem cutQ_mono {M M' : Slots → List Ent → Prop} {e : Exit} {s : Slots} {h : List Ent} (hm : ∀ s h, M' s h → M s h) : cutQ M' e s h → cutQ M e s h := fun ⟨he, s', h', h1, h2, h3⟩ => ⟨he, s', h', h1, h2, hm _ _ h3⟩
theorem arcs_sub {f : Arc → Int} {k n : Nat} (h : k ≤ n) {a : Arc} (ha : a ∈ arcsL f k) : a ∈ arcsL f n := by
  rw [mem_arcs] at ha ⊢
  exact ⟨by omega, ha.2⟩
theorem arcs1_p (gb gw gm : Nat) (b : BookD) (cp : Bool) (F : Arc → Int) (hv : VBook b) : ISpecS Try.prog 176 (fun y => [] ++ [y] ++ [ptrV gb].map AV.v) (hcA gb gw gm b cp F) (PreA b F) (FullA b F) := by
  have hlen := hv.len
  intro l C X hround o hC
  show ACall Try.prog 176 [.v (.func (.yield l) #[] #[]), .v (ptrV gb)] _ _
  refine acall_of_awp T0 Try.func176 rfl rfl rfl ?_
  repeat (first | refine awp_seq ?_ | refine awp_block ?_ | refine awp_region_lit rfl ?_ | ((first | (show AWL _ _ _ (⟨_, .move _, _, _, _, _⟩ :: _) _ _ _; refine awl_pw ?w (pv_move rfl rfl) rfl rfl ?_) | (show AWL _ _ _ (⟨_, .load _ _, _, _, _, _⟩ :: _) _ _ _; refine awl_lw ?w (lv_cl1 T0 rfl rfl rfl (by solve | repeat' constructor) (by first | rfl | assumption)) rfl rfl rfl ?_) | (show AWL _ _ _ (⟨_, .fieldAddr _ _ _, _, _, _, _⟩ :: _) _ _ _; refine awl_pw ?w (pv_fa T0 rfl rfl rfl (by simp; rfl)) rfl rfl ?_) | (show AWL _ _ _ (⟨_, .call ⟨.builtin .len, _, _⟩, _, _, _, _⟩ :: _) _ _ _; refine awl_pw ?w (pv_len_t T0 rfl rfl rfl) rfl rfl ?_) | (show AWL _ _ _ (⟨_, .nilCheck _, _, _, _, _⟩ :: _) _ _ _; refine awl_pw ?w (pv_nilCheck rfl rfl) rfl rfl ?_)); case w => first | exact wt_none rfl | exact wt_some' rfl rfl rfl rfl (by first | rfl | assumption | exact dT (by omega) | exact dF (by omega))) | refine awl_nil ?_)
  refine awp_loop (fun m s h => ∃ (k : Nat) (o' : Ob), k ≤ b.cons.length ∧ m = b.cons.length - k ∧ C ((arcsL F k).map (arcRow b)) o' ∧ s = arS l gb (.t (consT cp b.cons)) (intA b.cons.length) k ∧ h = .ob o' :: hcA gb gw gm b cp F) ?_ ⟨0, o, Nat.zero_le _, rfl, hC, rfl, rfl⟩ (by first | ((repeat' (first | exact True.intro | refine ⟨rfl, ?_⟩)); all_goals fail) | fail) (by solve | repeat' constructor)
  rintro m s h ⟨k, o', hk, rfl, hC', rfl, rfl⟩
  by_cases hlt : k < b.cons.length
  case neg =>
    obtain rfl : k = b.cons.length := by omega
    repeat (first | refine awp_seq ?_ | refine awp_region_lit rfl ?_ | refine awp_exit ?_ | with_reducible refine then_x ?_ | with_reducible refine blk_x ?_ | refine rnd_x ?_ | refine awp_cond_f rfl (by first | rfl | assumption | exact dF (by omega)) ?_ | ((first | (show AWL _ _ _ (⟨_, .binOp .lss _ _ _ _, _, _, _, _⟩ :: _) _ _ _; refine awl_pw ?w (pv_lss rfl rfl rfl) rfl rfl ?_)); case w => first | exact wt_none rfl | exact wt_some' rfl rfl rfl rfl (by first | rfl | assumption | exact dT (by omega) | exact dF (by omega))) | refine awl_nil ?_)
    exact body_n .nil (SubH.refl _) (.inl ⟨_, o', rfl, hC', rfl⟩)
  have hfr := hv.frm k hlt
  have hto := hv.to k hlt
  have hpre : ∀ a, a.1 = k → 0 < F a → ∀ l' : List Arc, (∀ a' ∈ l', a' ∈ arcsL F b.cons.length) → PreA b F (l'.map (arcRow b) ++ [arcRow b a]) := fun a ha hFa l' hl' => ⟨l' ++ [a], by rw [List.map_append]; rfl, fun a' h => by
    rcases List.mem_append.1 h with h | h
    · exact hl' a' h
    · obtain rfl := List.mem_singleton.1 h
      exact mem_arcs.2 ⟨by omega, hFa⟩⟩
  have hya : ∀ a o1, a.1 = k → 0 < F a → ∀ l' : List Arc, (∀ a' ∈ l', a' ∈ arcsL F b.cons.length) → C (l'.map (arcRow b)) o1 → YCall Try.prog l (arcRow b a) (.ob o1 :: hcA gb gw gm b cp F) (fun r h' => ∃ rb, r = boolA rb ∧ ((rb = true ∧ ∃ o', h' = .ob o' :: hcA gb gw gm b cp F ∧ C ((l' ++ [a]).map (arcRow b)) o') ∨ (rb = false ∧ ∃ L, PreA b F L ∧ X L h'))) := fun a o1 ha hFa l' hl' hC1 =>
    (hround _ _ (hpre a ha hFa l' hl') o1 hC1).mono fun r h' hq => by
      rcases hq with ⟨rfl, o2, rfl, h2⟩ | ⟨rfl, hX⟩
      · exact ⟨true, rfl, .inl ⟨rfl, o2, rfl, by rw [List.map_append]; exact h2⟩⟩
      · exact ⟨false, rfl, .inr ⟨rfl, _, hpre a ha hFa l' hl', hX⟩⟩
  have eF : ∀ q : Int, 0 ≤ q → intA q = intA (q.toNat : Int) := fun q hq => by rw [Int.toNat_of_nonneg hq]
  have hr1 : arcRow b (k, false) = [.ag [intA k, boolA false], .ag [intA (b.cons.getD k default).frm, intA (b.cons.getD k default).to, intA (-1)]] := by
    rw [eF _ hfr.1, eF _ hto.1]; rfl
  have hr2 : arcRow b (k, true) = [.ag [intA k, boolA true], .ag [intA (b.cons.getD k default).to, intA (b.cons.getD k default).frm, intA 1]] := by
    rw [eF _ hfr.1, eF _ hto.1]; rfl
  have hsub := fun a (ha : a ∈ arcsL F k) => arcs_sub hk ha
  repeat (first | refine awp_seq ?_ | refine awp_block ?_ | refine awp_region_lit rfl ?_ | refine awp_skip ?_ | refine awp_cond_t rfl (by first | rfl | assumption | exact dT (by omega)) ?_ | ((first | (show AWL _ _ _ (⟨_, .move _, _, _, _, _⟩ :: _) _ _ _; refine awl_pw ?w (pv_move rfl rfl) rfl rfl ?_) | (show AWL _ _ _ (⟨_, .load _ _, _, _, _, _⟩ :: _) _ _ _; refine awl_lw ?w (lv_elt_ag T0 rfl rfl rfl rfl (by solve | repeat' constructor)) rfl rfl rfl ?_) | (show AWL _ _ _ (⟨_, .indexAddr _ _ _, _, _, _, _⟩ :: _) _ _ _; refine awl_pw ?w (pv_ix_t T0 rfl rfl rfl rfl (by omega) (by first | exact Int.toNat_natCast _ | rfl)) rfl rfl ?_) | (show AWL _ _ _ (⟨_, .binOp .lss _ _ _ _, _, _, _, _⟩ :: _) _ _ _; refine awl_pw ?w (pv_lss rfl rfl rfl) rfl rfl ?_)); case w => first | exact wt_none rfl | exact wt_some' rfl rfl rfl rfl (by first | rfl | assumption | exact dT (by omega) | exact dF (by omega))) | refine awl_nil ?_)
  refine awl_hw (by first | exact wt_none rfl | exact wt_some' rfl rfl rfl rfl (by first | rfl | assumption | exact dT (by omega) | exact dF (by omega))) (st_alloc T0 rfl rfl rfl rfl (by simp only [Value.cells, List.toList_toArray, List.map_cons, List.map_nil]; rfl) ?_)
  intro g4
  repeat (first | refine awp_seq ?_ | refine awp_region_lit rfl ?_ | ((first | (show AWL _ _ _ (⟨_, .move _, _, _, _, _⟩ :: _) _ _ _; refine awl_pw ?w (pv_move rfl rfl) rfl rfl ?_) | (show AWL _ _ _ (⟨_, .assign _, _, _, _, _⟩ :: _) _ _ _; refine awl_pw ?w (pv_assign rfl rfl) rfl rfl ?_) | (show AWL _ _ _ (⟨_, .build _ _, _, _, _, _⟩ :: _) _ _ _; refine awl_pw ?w (pv_build T0 rfl rfl rfl (by simp only [Value.cells, List.toList_toArray, List.map_cons, List.map_nil]; rfl) (by first | ((repeat' (first | exact BParts.nil | apply BParts.cons | rfl)); all_goals fail) | fail) (by first | ((repeat' (first | exact FillA.nil | exact Sp.done | apply FillA.cons | apply Sp.put | apply Sp.skip | (simp only [cellsA]; rfl) | rfl)); all_goals fail) | fail)) rfl rfl ?_)); case w => first | exact wt_none rfl | exact wt_some' rfl rfl rfl rfl (by first | rfl | assumption | exact dT (by omega) | exact dF (by omega))) | (show AWL _ _ _ (⟨_, .store _ _ _, _, _, _, _⟩ :: _) _ _ _; refine awl_hw (by first | exact wt_none rfl | exact wt_some' rfl rfl rfl rfl (by first | rfl | assumption | exact dT (by omega) | exact dF (by omega))) (st_store T0 rfl rfl rfl rfl rfl (by first | assumption | (simp only [cellsA]; rfl)) rfl rfl rfl (by solve | repeat' constructor) (by solve | repeat' constructor) trivial ?_)) | refine awl_nil ?_)
  refine awl_hw (by first | exact wt_none rfl | exact wt_some' rfl rfl rfl rfl (by first | rfl | assumption | exact dT (by omega) | exact dF (by omega))) (st_alloc T0 rfl rfl rfl rfl (by simp only [Value.cells, List.toList_toArray, List.map_cons, List.map_nil]; rfl) ?_)
  intro g5
  repeat (first | refine awp_seq ?_ | (show AWL _ _ _ (⟨_, .store _ _ _, _, _, _, _⟩ :: _) _ _ _; refine awl_hw (by first | exact wt_none rfl | exact wt_some' rfl rfl rfl rfl (by first | rfl | assumption | exact dT (by omega) | exact dF (by omega))) (st_store T0 rfl rfl rfl rfl rfl (by first | assumption | (simp only [cellsA]; rfl)) rfl rfl rfl (by solve | repeat' constructor) (by solve | repeat' constructor) trivial ?_)) | refine awl_nil ?_)
  refine awp_cut (fun s h => (∃ o1, C ((arcsL F k ++ if 0 < F (k, false) then [(k, false)] else []).map (arcRow b)) o1 ∧ s = (37, boolA false) :: (3, intA k) :: (4, .v (ptrV g4)) :: arS l gb (.t (consT cp b.cons)) (intA b.cons.length) k ∧ h = .ob o1 :: (hcA gb gw gm b cp F ++ [.cl g4 164 [intA (b.cons.getD k default).frm, intA (b.cons.getD k default).to, intA (b.cons.getD k default).num, intA (b.cons.getD k default).price]])) ∨ ((∃ L, PreA b F L ∧ X L h) ∧ s = [(37, boolA true)])) ?_ ?_
  · by_cases hF : 0 < F (k, false)
    · refine awp_mono (awp_weak (by first | ((repeat' (first | exact True.intro | refine ⟨rfl, ?_⟩)); all_goals fail) | fail) (by solve | repeat' constructor) (ar_4y (b := b) (k := k) (g4 := g4) (g5 := g5) (gb := gb) (gw := gw) (gm := gm) (l := l) (cp := cp) (u11 := .t (consT cp b.cons)) (u12 := intA b.cons.length) (F := F) (o := o') (c := b.cons.getD k default) rfl (decide_eq_true hF) (by rw [← hr1]; exact hya (k, false) o' rfl hF _ hsub hC') rfl)) (fun e s h hh => cutQ_mono (fun s h hm => ?_) hh)
      rw [if_pos hF]
      exact hm
    · refine awp_mono (awp_weak (by first | ((repeat' (first | exact True.intro | refine ⟨rfl, ?_⟩)); all_goals fail) | fail) (by solve | repeat' constructor) (ar_4n (b := b) (k := k) (g4 := g4) (g5 := g5) (gb := gb) (gw := gw) (gm := gm) (l := l) (cp := cp) (u11 := .t (consT cp b.cons)) (u12 := intA b.cons.length) (F := F) (o := o') (c := b.cons.getD k default) rfl (decide_eq_false hF) rfl)) (fun e s h hh => cutQ_mono (fun s h hm => ?_) hh)
      rw [if_neg hF, List.append_nil]
      exact .inl ⟨o', hC', hm⟩
  rintro s h (⟨o1, hC1, rfl, rfl⟩ | ⟨hX, rfl⟩)
  case inr =>
    repeat (first | refine awp_ret ?_ | with_reducible refine then_r ?_ | with_reducible refine blk_r ?_ | refine rnd_r ?_ | refine awp_cond_t rfl (by first | rfl | assumption | exact dT (by omega)) ?_)
    exact body_r .nil (SubH.refl _) (.inr hX)
  have hsub1 : ∀ a ∈ arcsL F k ++ (if 0 < F (k, false) then [((k, false) : Arc)] else []), a ∈ arcsL F b.cons.length := fun a ha => by
    rcases List.mem_append.1 ha with ha | ha
    · exact hsub a ha
    · split at ha
      · rename_i hF
        obtain rfl := List.mem_singleton.1 ha
        exact mem_arcs.2 ⟨hlt, hF⟩
      · cases ha
  repeat (first | refine awp_seq ?_ | refine awp_region_lit rfl ?_ | refine awp_skip ?_ | refine awp_cond_f rfl (by first | rfl | assumption | exact dF (by omega)) ?_ | ((first | (show AWL _ _ _ (⟨_, .move _, _, _, _, _⟩ :: _) _ _ _; refine awl_pw ?w (pv_move rfl rfl) rfl rfl ?_) | (show AWL _ _ _ (⟨_, .build _ _, _, _, _, _⟩ :: _) _ _ _; refine awl_pw ?w (pv_build T0 rfl rfl rfl (by simp only [Value.cells, List.toList_toArray, List.map_cons, List.map_nil]; rfl) (by first | ((repeat' (first | exact BParts.nil | apply BParts.cons | rfl)); all_goals fail) | fail) (by first | ((repeat' (first | exact FillA.nil | exact Sp.done | apply FillA.cons | apply Sp.put | apply Sp.skip | (simp only [cellsA]; rfl) | rfl)); all_goals fail) | fail)) rfl rfl ?_)); case w => first | exact wt_none rfl | exact wt_some' rfl rfl rfl rfl (by first | rfl | assumption | exact dT (by omega) | exact dF (by omega))))
  refine awl_hw (by first | exact wt_none rfl | exact wt_some' rfl rfl rfl rfl (by first | rfl | assumption | exact dT (by omega) | exact dF (by omega))) (st_alloc T0 rfl rfl rfl rfl (by simp only [Value.cells, List.toList_toArray, List.map_cons, List.map_nil]; rfl) ?_)
  intro g6
  repeat (first | refine awp_seq ?_ | (show AWL _ _ _ (⟨_, .store _ _ _, _, _, _, _⟩ :: _) _ _ _; refine awl_hw (by first | exact wt_none rfl | exact wt_some' rfl rfl rfl rfl (by first | rfl | assumption | exact dT (by omega) | exact dF (by omega))) (st_store T0 rfl rfl rfl rfl rfl (by first | assumption | (simp only [cellsA]; rfl)) rfl rfl rfl (by solve | repeat' constructor) (by solve | repeat' constructor) trivial ?_)) | refine awl_nil ?_)
  refine awp_cut (fun s h => (∃ o1, C ((arcsL F (k + 1)).map (arcRow b)) o1 ∧ s = (57, boolA false) :: arS l gb (.t (consT cp b.cons)) (intA b.cons.length) k ∧ h = .ob o1 :: hcA gb gw gm b cp F) ∨ ((∃ L, PreA b F L ∧ X L h) ∧ s = [(57, boolA true)])) ?_ ?_
  · have e1 : arcsL F (k + 1) = (arcsL F k ++ if 0 < F (k, false) then [(k, false)] else []) ++ if 0 < F (k, true) then [(k, true)] else [] := rfl
    by_cases hF : 0 < F (k, true)
    · refine awp_mono (awp_weak (by first | ((repeat' (first | exact True.intro | refine ⟨rfl, ?_⟩)); all_goals fail) | fail) (by solve | repeat' constructor) (ar_6y (b := b) (k := k) (g4 := g4) (g6 := g6) (gb := gb) (gw := gw) (gm := gm) (l := l) (cp := cp) (u11 := .t (consT cp b.cons)) (u12 := intA b.cons.length) (F := F) (o := o1) (c := b.cons.getD k default) rfl (decide_eq_true hF) (by rw [← hr2]; exact hya (k, true) o1 rfl hF _ hsub1 hC1) rfl)) (fun e s h hh => cutQ_mono (fun s h hm => ?_) hh)
      rw [e1, if_pos hF]
      exact hm
    · refine awp_mono (awp_weak (by first | ((repeat' (first | exact True.intro | refine ⟨rfl, ?_⟩)); all_goals fail) | fail) (by solve | repeat' constructor) (ar_6n (b := b) (k := k) (g4 := g4) (g6 := g6) (gb := gb) (gw := gw) (gm := gm) (l := l) (cp := cp) (u11 := .t (consT cp b.cons)) (u12 := intA b.cons.length) (F := F) (o := o1) (c := b.cons.getD k default) rfl (decide_eq_false hF) rfl)) (fun e s h hh => cutQ_mono (fun s h hm => ?_) hh)
      rw [e1, if_neg hF, List.append_nil]
      exact .inl ⟨o1, hC1, hm⟩
  rintro s h (⟨o2, hC2, rfl, rfl⟩ | ⟨hX, rfl⟩)
  case inr =>
    repeat (first | refine awp_ret ?_ | with_reducible refine then_r ?_ | with_reducible refine blk_r ?_ | refine rnd_r ?_ | refine awp_cond_t rfl (by first | rfl | assumption | exact dT (by omega)) ?_)
    exact body_r .nil (SubH.refl _) (.inr hX)
  repeat (first | refine awp_region_lit rfl ?_ | refine awp_skip ?_ | refine awp_cond_f rfl (by first | rfl | assumption | exact dF (by omega)) ?_ | ((first | (show AWL _ _ _ (⟨_, .move _, _, _, _, _⟩ :: _) _ _ _; refine awl_pw ?w (pv_move rfl rfl) rfl rfl ?_) | (show AWL _ _ _ (⟨_, .binOp .add _ _ _ _, _, _, _, _⟩ :: _) _ _ _; refine awl_pw ?w (pv_add rfl rfl rfl (by first | assumption | exact wr64 (by omega))) rfl rfl ?_)); case w => first | exact wt_none rfl | exact wt_some' rfl rfl rfl rfl (by first | rfl | assumption | exact dT (by omega) | exact dF (by omega))) | refine awl_nil ?_)
  refine rnd_n _ _ _ ?_ ⟨k + 1, o2, hlt, rfl, hC2, rfl, rfl⟩ (by first | ((repeat' (first | exact True.intro | refine ⟨rfl, ?_⟩)); all_goals fail) | fail) (by solve | repeat' constructor)
  omega
end Go.Proofs.Ytlpknbneilgjkaa.R
end
section
namespace Go.Proofs.Ytlpknbneilgjkaa.R
open Go Go.RowKit Go.Tl
set_option linter.unusedVariables false
set_option linter.unusedSimpArgs false
set_option maxRecDepth 100000
set_option maxHeartbeats 4000000
attribute [local irreducible] AWP AWL AOp PV LV AWT AWE
theorem arcRow_inj {b : BookD} {a a' : Arc} (h : arcRow b a = arcRow b a') : a = a' := by
  obtain ⟨i, t⟩ := a
  obtain ⟨j, u⟩ := a'
  unfold arcRow at h
  simp only [List.cons.injEq, AV.ag.injEq, AV.v.injEq, Value.int.injEq, Value.bool.injEq, Int.ofNat_inj] at h
  obtain ⟨⟨⟨-, h1⟩, h2, -⟩, -⟩ := h
  rw [h1, h2]
theorem arcRows_inj {b : BookD} : ∀ {l l' : List Arc}, l.map (arcRow b) = l'.map (arcRow b) → l = l'
  | [], [], _ => rfl
  | [], _ :: _, h => by cases h
  | _ :: _, [], h => by cases h
  | a :: l, a' :: l', h => by
    simp only [List.map_cons, List.cons.injEq] at h
    rw [arcRow_inj h.1, arcRows_inj h.2]
theorem pre_arc {b : BookD} {F : Arc → Int} {pre : List (List AV)} {y : List AV} (h : PreA b F (pre ++ [y])) : ∃ a, a ∈ arcsL F b.cons.length ∧ y = arcRow b a := by
  obtain ⟨l, e, hl⟩ := h
  have hm : y ∈ l.map (arcRow b) := by rw [← e]; simp
  obtain ⟨a, ha, rfl⟩ := List.mem_map.1 hm
  exact ⟨a, hl a ha, rfl⟩
theorem arc_ends {b : BookD} {F : Arc → Int} (hv : VBook b) {a : Arc} (ha : a ∈ arcsL F b.cons.length) : aF b a < b.houses.toNat ∧ aT b a < b.houses.toNat := by
  have hi := (mem_arcs.1 ha).1
  have hf := hv.frm a.1 hi
  have ht := hv.to a.1 hi
  unfold aF aT
  cases a.2
  · exact ⟨show (b.cons.getD a.1 default).frm.toNat < _ by omega, show (b.cons.getD a.1 default).to.toNat < _ by omega⟩
  · exact ⟨show (b.cons.getD a.1 default).to.toNat < _ by omega, show (b.cons.getD a.1 default).frm.toNat < _ by omega⟩
section
variable {ro : Option Nat} {g4 g5 g7 g8 g9 gy k f t : Nat} {c : Int} {d out out' : Nat → Int} {bb bb' : Nat → Arc} {a : Arc} {rest : List Ent} {u0 : AV} {n : Int}
theorem sh_5 (hf : f < 6) (hd : -1000 ≤ d f ∧ d f ≤ 1000) (hc : -1000 ≤ c ∧ c ≤ 1000) {ops : Array Oper} (h : regG Try.f96 5 = some ops) :
    AWP Try.prog Try.f96.ntmps ro (.region 5 ops true) (cutQ (fun s h => s = [(10, intA (d f + c)), (4, .v (ptrV g4)), (5, .v (ptrV g5)), (7, .v (ptrV g7)), (8, .v (ptrV g8)), (9, .v (ptrV g9))] ∧ h = .cl g9 272 [intA f, intA t, intA c] :: .cl g4 235 (arrI d 6) :: rest))
      [(4, .v (ptrV g4)), (5, .v (ptrV g5)), (7, .v (ptrV g7)), (8, .v (ptrV g8)), (9, .v (ptrV g9))] (.cl g9 272 [intA f, intA t, intA c] :: .cl g4 235 (arrI d 6) :: rest) := by
  cases h
  have r1 : (arrI d 6)[f]? = some (intA (d f)) := arrI_at hf
  refine awp_tree T0 [(0, 0), (1, 1), (2, 0), (3, 1), (4, 0), (5, 1), (6, 0), (7, 0)] (.op 0 0 (.op 1 1 (.op 2 0 (.op 3 1 (.op 4 0 (.op 5 1 (.op 6 0 (.op 7 0 .stop)))))))) [.cl g9 _ _, .cl g4 _ _] rfl (by kernel_rfl) (by solve | repeat' constructor) ?_
  refine awt_po rfl (wt_none rfl) (pv_ix_arr T0 rfl rfl rfl rfl (by omega) (by simp; rfl)) rfl rfl ?_
  refine awt_lo rfl (wt_none rfl) (lv_cl1 T0 rfl rfl rfl (by solve | repeat' constructor) (by first | rfl | assumption)) rfl rfl rfl ?_
  refine awt_po rfl (wt_none rfl) (pv_ix_arr T0 rfl rfl rfl rfl (by omega) (by simp; rfl)) rfl rfl ?_
  refine awt_lo rfl (wt_none rfl) (lv_cl1 T0 rfl rfl rfl (by solve | repeat' constructor) (by first | rfl | assumption)) rfl rfl rfl ?_
  refine awt_po rfl (wt_none rfl) (pv_ix_arr T0 rfl rfl rfl rfl (by omega) (by simp; rfl)) rfl rfl ?_
  refine awt_lo rfl (wt_none rfl) (lv_cl1 T0 rfl rfl rfl (by solve | repeat' constructor) (by first | rfl | assumption)) rfl rfl rfl ?_
  refine awt_po rfl (wt_none rfl) (pv_add rfl rfl rfl (by first | assumption | exact wr64 (by omega))) rfl rfl ?_
  refine awt_po rfl (wt_none rfl) (pv_assign rfl rfl) rfl rfl ?_
  refine awt_end ?_
  exact cut_n ⟨rfl, rfl⟩ (by first | ((repeat' (first | exact True.intro | refine ⟨rfl, ?_⟩)); all_goals fail) | fail) (SubH.refl _)
theorem sh_7 (ht : t < 6) (ho : ∀ q, q < 6 → out' q = if q = t then n else out q) (hb : ∀ q, q < 6 → bb' q = if q = t then a else bb q) {ops : Array Oper} (h : regG Try.f96 7 = some ops) :
    AWP Try.prog Try.f96.ntmps ro (.region 7 ops true) (cutQ (fun s h => s = [] ∧ h = .cl g9 272 [intA f, intA t, intA c] :: .cl g8 232 [intA (a.1 : Nat), boolA a.2] :: .cl g7 235 (arrI out' 6) :: .cl gy 233 (arrA bb' 6) :: .cl g5 237 [.v (ptrV gy)] :: rest))
      [(10, intA n), (5, .v (ptrV g5)), (7, .v (ptrV g7)), (8, .v (ptrV g8)), (9, .v (ptrV g9))] (.cl g9 272 [intA f, intA t, intA c] :: .cl g8 232 [intA (a.1 : Nat), boolA a.2] :: .cl g7 235 (arrI out 6) :: .cl gy 233 (arrA bb 6) :: .cl g5 237 [.v (ptrV gy)] :: rest) := by
  cases h
  refine awp_tree T0 [(0, 0), (1, 1), (2, 1), (3, 0), (4, 1), (5, 0), (6, 1), (7, 0), (9, 0), (8, 2), (10, 0), (11, 3)] (.op 0 0 (.op 1 1 (.op 2 1 (.op 3 0 (.op 4 1 (.op 5 0 (.op 6 1 (.op 7 0 (.op 9 0 (.op 8 2 (.op 10 0 (.op 11 3 .stop)))))))))))) [.cl g9 _ _, .cl g8 _ _, .cl g5 _ _] rfl (by kernel_rfl) (by solve | repeat' constructor) ?_
  refine awt_po rfl (wt_none rfl) (pv_ix_arr T0 rfl rfl rfl rfl (by omega) (by simp; rfl)) rfl rfl ?_
  refine awt_lo rfl (wt_none rfl) (lv_cl1 T0 rfl rfl rfl (by solve | repeat' constructor) (by first | rfl | assumption)) rfl rfl rfl ?_
  refine awt_lo rfl (wt_none rfl) (lv_cl1 T0 rfl rfl rfl (by solve | repeat' constructor) (by first | rfl | assumption)) rfl rfl rfl ?_
  refine awt_po rfl (wt_none rfl) (pv_ix_arr T0 rfl rfl rfl rfl (by omega) (by simp; rfl)) rfl rfl ?_
  refine awt_lo rfl (wt_none rfl) (lv_cl1 T0 rfl rfl rfl (by solve | repeat' constructor) (by first | rfl | assumption)) rfl rfl rfl ?_
  refine awt_po rfl (wt_none rfl) (pv_move rfl rfl) rfl rfl ?_
  refine awt_lo rfl (wt_none rfl) (lv_cla T0 rfl rfl rfl (by solve | repeat' constructor) rfl) rfl rfl rfl ?_
  refine awt_po rfl (wt_none rfl) (pv_ix_arr T0 rfl rfl rfl rfl (by omega) (by simp; rfl)) rfl rfl ?_
  refine awt_po rfl (wt_none rfl) (pv_nilCheck rfl rfl) rfl rfl ?_
  refine awt_h (hm := [.cl g7 235 (arrI out 6)]) rfl (wt_none rfl) (by solve | repeat' constructor) rfl (st_arrI T0 rfl rfl rfl rfl rfl (by solve | repeat' constructor) ht ho ⟨_, List.mem_singleton.2 rfl, rfl⟩ ?_)
  refine awt_po rfl (wt_none rfl) (pv_ix_arr T0 rfl rfl rfl rfl (by omega) (show 0 + (t : Int).toNat * 2 = t * 2 by simp)) rfl rfl ?_
  refine awt_s (md := fun _ => True) rfl (wt_none rfl) (st_arrA T0 (a := a) rfl rfl rfl rfl rfl (by solve | repeat' constructor) ht hb trivial ?_)
  refine awe_end ?_
  exact cut_n ⟨rfl, rfl⟩ (by first | ((repeat' (first | exact True.intro | refine ⟨rfl, ?_⟩)); all_goals fail) | fail) (SubH.refl _)
end
theorem shorten_p (cp : Bool) (b : BookD) (gw gm gy : Nat) (F : Arc → Int) (d : Nat → Int) (bb : Nat → Arc) (hv : VBook b) (hd : ∀ q, q < 6 → -1000 ≤ d q ∧ d q ≤ 1000) :
    ACall Try.prog 96 [.v (ptrV gw), .ag (arrI d 6), .v (ptrV gy)] [workE gw gm b cp, leftM gm F, .cl gy 233 (arrA bb 6)]
      (fun r h' => r = .ag (arrI (shL b d bb (arcsL F b.cons.length)).1 6) ∧ h' = [workE gw gm b cp, leftM gm F, .cl gy 233 (arrA (shL b d bb (arcsL F b.cons.length)).2 6)]) := by
  have hh := hv.houses
  refine acall_of_awp T0 Try.func96 rfl rfl rfl ?_
  repeat (first | refine awp_seq ?_ | refine awp_region_lit rfl ?_)
  refine awl_hw (wt_none rfl) (st_box rfl rfl (by first | rfl | assumption) (by first | assumption | (simp only [cellsA]; rfl)) rfl rfl ?_)
  intro g4
  skip
  refine awl_hw (wt_none rfl) (st_box rfl rfl (by first | rfl | assumption) (by first | assumption | (simp only [cellsA]; rfl)) rfl rfl ?_)
  intro g5
  skip
  refine awl_hw (wt_none rfl) (st_alloc T0 rfl rfl rfl rfl (by simp only [Value.cells, List.toList_toArray, List.map_cons, List.map_nil]; rfl) ?_)
  intro g6
  repeat (first | refine awp_seq ?_ | refine awp_region_lit rfl ?_ | (show AWL _ _ _ (⟨_, .load _ _, _, _, _, _⟩ :: _) _ _ _; refine awl_lw (wt_none rfl) (lv_cla T0 rfl rfl rfl (by solve | repeat' constructor) rfl) rfl rfl rfl ?_) | refine awl_nil ?_)
  refine awl_hw (wt_none rfl) (st_alloc T0 rfl rfl rfl rfl (by simp only [Value.cells, List.toList_toArray, List.map_cons, List.map_nil]; rfl) ?_)
  intro g7
  repeat (first | refine awp_seq ?_ | refine awp_region_lit rfl ?_ | (show AWL _ _ _ (⟨_, .move _, _, _, _, _⟩ :: _) _ _ _; refine awl_pw (wt_none rfl) (pv_move rfl rfl) rfl rfl ?_) | (show AWL _ _ _ (⟨_, .store _ _ _, _, _, _, _⟩ :: _) _ _ _; refine awl_hw (wt_none rfl) (st_store T0 rfl rfl rfl rfl rfl (by first | assumption | (simp only [cellsA]; rfl)) rfl rfl rfl (by solve | repeat' constructor) (by solve | repeat' constructor) trivial ?_)) | refine awl_nil ?_)
  refine awl_hw (wt_none rfl) (st_acall T0 (arcs_p gw) rfl rfl rfl rfl (by first | exact callee_lit | exact callee_v | exact callee_fn | assumption) (by solve | repeat' constructor) (by first | rfl | assumption) rfl (by first | ((repeat' (first | exact SubH.refl _ | apply SubH.cons | exact Pick.here | apply Pick.there)); all_goals fail) | fail) (fun _ _ => trivial) ?_)
  rintro r h ⟨gb, rfl, rfl⟩
  simp only [List.cons_append, List.nil_append]
  repeat (first | refine awp_block ?_ | refine awl_nil ?_)
  refine awp_rangeFuncS T0 (Pre := PreA b F) (Full := FullA b F) (hf := [.cl g4 235 (arrI d 6), .cl g6 235 [intA 0, intA 0, intA 0, intA 0, intA 0, intA 0], .cl g7 235 (arrI d 6), .cl gy 233 (arrA bb 6), .cl g5 237 [.v (ptrV gy)]])
    (fun pre h => ∃ l, pre = l.map (arcRow b) ∧ h = [.cl g4 235 (arrI d 6), .cl g6 235 [intA 0, intA 0, intA 0, intA 0, intA 0, intA 0], .cl g7 235 (arrI (shL b d bb l).1 6), .cl gy 233 (arrA (shL b d bb l).2 6), .cl g5 237 [.v (ptrV gy)]]) (fun _ _ _ => False) rfl (callee_v (a := []) (b := [ptrV gb])) rfl (arcs1_p gb gw gm b cp F hv) (by solve | repeat' constructor) ⟨[], rfl, rfl⟩ ?_ rfl ?_ ?_ (fun _ _ _ h => h.elim) (fun _ _ _ _ h => h.elim)
  · intro pre y hp
    obtain ⟨a, -, rfl⟩ := pre_arc hp
    rfl
  · rintro l pre y h' hp ⟨l1, rfl, rfl⟩
    obtain ⟨a, ha, rfl⟩ := pre_arc hp
    have he := arc_ends hv ha
    have hdF := hd (aF b a) (by omega)
    have hc : -1 ≤ aC a ∧ aC a ≤ 1 := by unfold aC; split <;> omega
    have hsn := shL_snoc b d bb l1 a
    have r1 : (arrI (shL b d bb l1).1 6)[aT b a]? = some (intA ((shL b d bb l1).1 (aT b a))) := arrI_at (by omega)
    have hT6 : aT b a < 6 := by omega
    have hF6 : aF b a < 6 := by omega
    unfold sh1 at hsn
    generalize hS : shL b d bb l1 = S at *
    have hlast : ∀ S', shL b d bb (l1 ++ [a]) = S' → ∃ h', ([.cl gb 167 [.v (ptrV gw)], workE gw gm b cp, leftM gm F, .cl g4 235 (arrI d 6), .cl g6 235 [intA 0, intA 0, intA 0, intA 0, intA 0, intA 0], .cl g7 235 (arrI S'.1 6), .cl gy 233 (arrA S'.2 6), .cl g5 237 [.v (ptrV gy)]] : List Ent) = hcA gb gw gm b cp F ++ h' ∧ ∃ l, l1.map (arcRow b) ++ [arcRow b a] = l.map (arcRow b) ∧ h' = [.cl g4 235 (arrI d 6), .cl g6 235 [intA 0, intA 0, intA 0, intA 0, intA 0, intA 0], .cl g7 235 (arrI (shL b d bb l).1 6), .cl gy 233 (arrA (shL b d bb l).2 6), .cl g5 237 [.v (ptrV gy)]] := fun S' e => by
      subst e
      exact ⟨_, rfl, l1 ++ [a], by rw [List.map_append]; rfl, rfl⟩
    repeat (first | refine awp_seq ?_ | refine awp_region_lit rfl ?_)
    refine awl_hw (wt_none rfl) (st_alloc T0 rfl rfl rfl rfl (by simp only [Value.cells, List.toList_toArray, List.map_cons, List.map_nil]; rfl) ?_)
    intro g8
    repeat (first | refine awp_region_lit rfl ?_ | (show AWL _ _ _ (⟨_, .store _ _ _, _, _, _, _⟩ :: _) _ _ _; refine awl_hw (wt_none rfl) (st_store T0 rfl rfl rfl rfl rfl (by first | assumption | (simp only [cellsA]; rfl)) rfl rfl rfl (by solve | repeat' constructor) (by solve | repeat' constructor) trivial ?_)) | refine awl_nil ?_)
    refine awl_hw (wt_none rfl) (st_alloc T0 rfl rfl rfl rfl (by simp only [Value.cells, List.toList_toArray, List.map_cons, List.map_nil]; rfl) ?_)
    intro g9
    repeat (first | (show AWL _ _ _ (⟨_, .store _ _ _, _, _, _, _⟩ :: _) _ _ _; refine awl_hw (wt_none rfl) (st_store T0 rfl rfl rfl rfl rfl (by first | assumption | (simp only [cellsA]; rfl)) rfl rfl rfl (by solve | repeat' constructor) (by solve | repeat' constructor) trivial ?_)) | refine awl_nil ?_)
    refine ⟨rfl, ?_⟩
    repeat (first | refine awp_seq ?_ | refine awp_block ?_)
    refine awp_cut _ (awp_weak (by first | ((repeat' (first | exact True.intro | refine ⟨rfl, ?_⟩)); all_goals fail) | fail) (by solve | repeat' constructor) (sh_5 (g4 := g4) (g5 := g5) (g7 := g7) (g8 := g8) (g9 := g9) (f := aF b a) (t := aT b a) (c := aC a) (d := d) (rest := .cl g8 232 [intA (a.1 : Nat), boolA a.2] :: hcA gb gw gm b cp F ++ [.cl g6 235 [intA 0, intA 0, intA 0, intA 0, intA 0, intA 0], .cl g7 235 (arrI S.1 6), .cl gy 233 (arrA S.2 6), .cl g5 237 [.v (ptrV gy)]]) hF6 hdF (by omega) rfl)) ?_
    rintro s h ⟨rfl, rfl⟩
    simp only [List.cons_append, List.nil_append]
    by_cases hlt : d (aF b a) + aC a < S.1 (aT b a)
    · have dl := decide_eq_true hlt
      rw [if_pos hlt] at hsn
      repeat (first | refine awp_seq ?_ | refine awp_region_lit rfl ?_ | with_reducible refine then_n ?_ | refine awp_cond_t rfl (by first | rfl | assumption | exact dT (by omega)) ?_ | (show AWL _ _ _ (⟨_, .move _, _, _, _, _⟩ :: _) _ _ _; refine awl_pw (wt_none rfl) (pv_move rfl rfl) rfl rfl ?_) | (show AWL _ _ _ (⟨_, .load _ _, _, _, _, _⟩ :: _) _ _ _; refine awl_lw (wt_none rfl) (lv_cl1 T0 rfl rfl rfl (by solve | repeat' constructor) (by first | rfl | assumption)) rfl rfl rfl ?_) | (show AWL _ _ _ (⟨_, .indexAddr _ _ _, _, _, _, _⟩ :: _) _ _ _; refine awl_pw (wt_none rfl) (pv_ix_arr T0 rfl rfl rfl rfl (by omega) (by simp; rfl)) rfl rfl ?_) | (show AWL _ _ _ (⟨_, .binOp .lss _ _ _ _, _, _, _, _⟩ :: _) _ _ _; refine awl_pw (wt_none rfl) (pv_lss rfl rfl rfl) rfl rfl ?_) | refine awl_nil ?_)
      refine awp_cutY _ (awp_weak (by first | ((repeat' (first | exact True.intro | refine ⟨rfl, ?_⟩)); all_goals fail) | fail) (by solve | repeat' constructor) (sh_7 (g5 := g5) (g7 := g7) (g8 := g8) (g9 := g9) (gy := gy) (f := aF b a) (t := aT b a) (c := aC a) (n := d (aF b a) + aC a) (a := a) (out := S.1) (bb := S.2) (out' := fun v => if v = aT b a then d (aF b a) + aC a else S.1 v) (bb' := fun v => if v = aT b a then a else S.2 v) (rest := hcA gb gw gm b cp F ++ [.cl g4 235 (arrI d 6), .cl g6 235 [intA 0, intA 0, intA 0, intA 0, intA 0, intA 0]]) hT6 (fun _ _ => rfl) (fun _ _ => rfl) rfl)) ?_
      rintro s h ⟨rfl, rfl⟩
      simp only [List.cons_append, List.nil_append]
      exact ⟨_, (by solve | repeat' constructor), hlast _ hsn⟩
    · have dl := decide_eq_false hlt
      rw [if_neg hlt] at hsn
      repeat (first | refine awp_seq ?_ | refine awp_region_lit rfl ?_ | refine awp_skip ?_ | with_reducible refine then_n ?_ | with_reducible refine blk_n ?_ | refine awp_cond_f rfl (by first | rfl | assumption | exact dF (by omega)) ?_ | (show AWL _ _ _ (⟨_, .move _, _, _, _, _⟩ :: _) _ _ _; refine awl_pw (wt_none rfl) (pv_move rfl rfl) rfl rfl ?_) | (show AWL _ _ _ (⟨_, .load _ _, _, _, _, _⟩ :: _) _ _ _; refine awl_lw (wt_none rfl) (lv_cl1 T0 rfl rfl rfl (by solve | repeat' constructor) (by first | rfl | assumption)) rfl rfl rfl ?_) | (show AWL _ _ _ (⟨_, .indexAddr _ _ _, _, _, _, _⟩ :: _) _ _ _; refine awl_pw (wt_none rfl) (pv_ix_arr T0 rfl rfl rfl rfl (by omega) (by simp; rfl)) rfl rfl ?_) | (show AWL _ _ _ (⟨_, .binOp .lss _ _ _ _, _, _, _, _⟩ :: _) _ _ _; refine awl_pw (wt_none rfl) (pv_lss rfl rfl rfl) rfl rfl ?_) | refine awl_nil ?_)
      exact ⟨_, (by solve | repeat' constructor), hlast _ hsn⟩
  · rintro L h' hF ⟨l1, rfl, rfl⟩
    obtain rfl := arcRows_inj hF
    simp only [List.cons_append, List.nil_append]
    repeat (first | refine awp_seq ?_ | refine awp_region_lit rfl ?_ | refine awp_ret ?_ | (show AWL _ _ _ (⟨_, .load _ _, _, _, _, _⟩ :: _) _ _ _; refine awl_lw (wt_none rfl) (lv_cla T0 rfl rfl rfl (by solve | repeat' constructor) rfl) rfl rfl rfl ?_) | (show AWL _ _ _ (⟨_, .store _ _ _, _, _, _, _⟩ :: _) _ _ _; refine awl_hw (wt_none rfl) (st_store T0 rfl rfl rfl rfl rfl (by first | assumption | (simp only [cellsA]; rfl)) rfl rfl rfl (by solve | repeat' constructor) (by solve | repeat' constructor) trivial ?_)) | refine awl_nil ?_)
    refine body_r (h' := [workE gw gm b cp, leftM gm F, .cl gy 233 (arrA (shL b d bb (arcsL F b.cons.length)).2 6)]) (.cons ⟨g6, _, _, _, _, rfl, rfl, (by solve | repeat' constructor), Nat.le_refl _, .inl rfl, rfl⟩ .nil) (by solve | repeat' constructor) ⟨?_, rfl⟩
    rfl
end Go.Proofs.Ytlpknbneilgjkaa.R
end
