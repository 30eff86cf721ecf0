/- Joined texts: Sa, Sb, Sc. -/
import Derived.Test.YtilhflfbbfeakaaZmRq
import Derived.Test.YtilhflfbbfeakaaZmGTs
import Derived.Test.YtilhflfbbfeakaaTz
section
namespace Go.Proofs.Ytilhflfbbfeakaa
open Go Go.RowKit Go.Tl
set_option linter.unusedVariables false
set_option linter.unusedSimpArgs false
set_option maxRecDepth 100000
set_option maxHeartbeats 4000000
attribute [local irreducible] AWP AWL AOp PV LV AWT AWE
abbrev workE (gw gm : Nat) (b : BookD) (cp : Bool) : Ent := .cl gw 116 [intA b.houses, .t (consT cp b.cons), .v (.map (some gm))]
abbrev leftM (gm : Nat) (F : Arc → Int) : Ent := mapF akV (intA 0) gm (fun a => intA (F a)) none
section
variable {b : BookD} {k g1 g5 gw gm : Nat} {cp : Bool} {u11 u12 : AV} {F : Arc → Int}
end
theorem woff_p (cp : Bool) (b : BookD) (gw gm : Nat) (F : Arc → Int) (hl : b.cons.length ≤ 1000) : ACall Try.prog 70 [.v (ptrV gw)] [workE gw gm b cp, leftM gm F] (fun r h' => r = .t (intsT true ((List.range b.cons.length).map fun i => F (i, true))) ∧ h' = [workE gw gm b cp, leftM gm F]) := by
  refine acall_of_awp T0 Try.func70 rfl rfl rfl ?_
  repeat (first | refine awp_seq ?_ | refine awp_region_lit rfl ?_ | (show AWL _ _ _ (⟨_, .move _, _, _, _, _⟩ :: _) _ _ _; refine awl_pw (wt_none rfl) (pv_move rfl rfl) rfl rfl ?_) | (show AWL _ _ _ (⟨_, .assign _, _, _, _, _⟩ :: _) _ _ _; refine awl_pw (wt_none rfl) (pv_assign rfl rfl) rfl rfl ?_) | (show AWL _ _ _ (⟨_, .load _ _, _, _, _, _⟩ :: _) _ _ _; refine awl_lw (wt_none rfl) (lv_cl1 T0 rfl rfl rfl (by solve | repeat' constructor) (by first | rfl | assumption)) rfl rfl rfl ?_) | (show AWL _ _ _ (⟨_, .fieldAddr _ _ _, _, _, _, _⟩ :: _) _ _ _; refine awl_pw (wt_none rfl) (pv_fa T0 rfl rfl rfl (by simp; rfl)) rfl rfl ?_) | (show AWL _ _ _ (⟨_, .call ⟨.builtin .len, _, _⟩, _, _, _, _⟩ :: _) _ _ _; refine awl_pw (wt_none rfl) (pv_len_t T0 rfl rfl rfl) rfl rfl ?_) | (show AWL _ _ _ (⟨_, .nilCheck _, _, _, _, _⟩ :: _) _ _ _; refine awl_pw (wt_none rfl) (pv_nilCheck rfl rfl) rfl rfl ?_) | refine awl_nil ?_)
  refine awl_hw (wt_none rfl) (aop_make T0 rfl rfl rfl rfl rfl rfl rfl rfl (by omega) rfl ?_)
  intro ga
  repeat (first | refine awp_seq ?_ | refine awp_block ?_ | refine awp_region_lit rfl ?_ | (show AWL _ _ _ (⟨_, .move _, _, _, _, _⟩ :: _) _ _ _; refine awl_pw (wt_none rfl) (pv_move rfl rfl) rfl rfl ?_) | (show AWL _ _ _ (⟨_, .assign _, _, _, _, _⟩ :: _) _ _ _; refine awl_pw (wt_none rfl) (pv_assign rfl rfl) rfl rfl ?_) | (show AWL _ _ _ (⟨_, .call ⟨.builtin .len, _, _⟩, _, _, _, _⟩ :: _) _ _ _; refine awl_pw (wt_none rfl) (pv_len_v T0 rfl rfl rfl) rfl rfl ?_) | refine awl_nil ?_)
  have hz : List.replicate b.cons.length [AV.v (Value.int .i64 0)] = fRows (fun i => if i < 0 then F (i, true) else 0) b.cons.length := by
    refine List.ext_getElem (by simp [fRows]) fun k h1 h2 => ?_
    simp [fRows, intRow]
  rw [hz]
  refine awp_loop (fun m s h => ∃ (k : Nat), k ≤ b.cons.length ∧ m = b.cons.length - k ∧ s = [(0, .v (ptrV gw)), (3, .v (.slice (some ⟨ga, 0, none⟩) b.cons.length b.cons.length)), (13, intA b.cons.length), (14, intA k)] ∧ h = [workE gw gm b cp, leftM gm F, .rw (.slice (some ⟨ga, 0, none⟩) b.cons.length b.cons.length) 3 1 (fRows (fun i => if i < k then F (i, true) else 0) b.cons.length)]) ?_ ⟨0, Nat.zero_le _, rfl, rfl, rfl⟩ (by first | ((repeat' (first | exact True.intro | refine ⟨rfl, ?_⟩)); all_goals fail) | fail) (by solve | repeat' constructor)
  rintro m s h ⟨k, hk, rfl, rfl, rfl⟩
  by_cases hlt : k < b.cons.length
  · have r2 := fRows_len (fun i => if i < k then F (i, true) else 0) b.cons.length
    have hset := fRows_set (f := fun i => if i < k then F (i, true) else 0) (g := fun i => if i < k + 1 then F (i, true) else 0) (m := b.cons.length) (j := k) (v := F (k, true)) hlt (fun q hq => by
      by_cases e : q = k
      · subst e; rw [if_pos (Nat.lt_succ_self _), if_pos rfl]
      · rw [if_neg e]
        by_cases c : q < k
        · rw [if_pos c, if_pos (by omega)]
        · rw [if_neg c, if_neg (by omega)])
    repeat (first | refine awp_seq ?_ | refine awp_block ?_ | refine awp_region_lit rfl ?_ | refine awp_skip ?_ | refine awp_cond_t rfl (by first | rfl | assumption | exact dT (by omega)) ?_ | (show AWL _ _ _ (⟨_, .move _, _, _, _, _⟩ :: _) _ _ _; refine awl_pw (wt_none rfl) (pv_move rfl rfl) rfl rfl ?_) | (show AWL _ _ _ (⟨_, .assign _, _, _, _, _⟩ :: _) _ _ _; refine awl_pw (wt_none rfl) (pv_assign rfl rfl) rfl rfl ?_) | (show AWL _ _ _ (⟨_, .load _ _, _, _, _, _⟩ :: _) _ _ _; refine awl_lw (wt_none rfl) (lv_cl1 T0 rfl rfl rfl (by solve | repeat' constructor) (by first | rfl | assumption)) rfl rfl rfl ?_) | (show AWL _ _ _ (⟨_, .fieldAddr _ _ _, _, _, _, _⟩ :: _) _ _ _; refine awl_pw (wt_none rfl) (pv_fa T0 rfl rfl rfl (by simp; rfl)) rfl rfl ?_) | (show AWL _ _ _ (⟨_, .build _ _, _, _, _, _⟩ :: _) _ _ _; refine awl_pw (wt_none rfl) (pv_build T0 rfl rfl rfl (by simp only [Value.cells, List.toList_toArray, List.map_cons, List.map_nil]; rfl) (by first | ((repeat' (first | exact BParts.nil | apply BParts.cons | rfl)); all_goals fail) | fail) (by first | ((repeat' (first | exact FillA.nil | exact Sp.done | apply FillA.cons | apply Sp.put | apply Sp.skip | (simp only [cellsA]; rfl) | rfl)); all_goals fail) | fail)) rfl rfl ?_) | (show AWL _ _ _ (⟨_, .binOp .lss _ _ _ _, _, _, _, _⟩ :: _) _ _ _; refine awl_pw (wt_none rfl) (pv_lss rfl rfl rfl) rfl rfl ?_) | (show AWL _ _ _ (⟨_, .nilCheck _, _, _, _, _⟩ :: _) _ _ _; refine awl_pw (wt_none rfl) (pv_nilCheck rfl rfl) rfl rfl ?_) | refine awl_nil ?_)
    refine awl_lw (wt_none rfl) (lv_lookupF Ma (k := (k, true)) rfl rfl rfl rfl (by solve | repeat' constructor) rfl) rfl rfl rfl ?_
    repeat (first | (show AWL _ _ _ (⟨_, .indexAddr _ _ _, _, _, _, _⟩ :: _) _ _ _; refine awl_pw (wt_none rfl) (pv_ix_own T0 rfl rfl rfl rfl (by omega) (by first | exact Int.toNat_natCast _ | rfl)) rfl rfl ?_))
    refine awl_hw (wt_none rfl) (aop_store_rp T0 rfl rfl rfl rfl rfl rfl rfl rfl (by solve | repeat' constructor) (by first | omega | (simp; omega)) (by omega) rfl trivial ?_)
    simp only [cellsA]
    rw [hset]
    repeat (first | refine awp_region_lit rfl ?_ | (show AWL _ _ _ (⟨_, .move _, _, _, _, _⟩ :: _) _ _ _; refine awl_pw (wt_none rfl) (pv_move rfl rfl) rfl rfl ?_) | (show AWL _ _ _ (⟨_, .binOp .add _ _ _ _, _, _, _, _⟩ :: _) _ _ _; refine awl_pw (wt_none rfl) (pv_add rfl rfl rfl (by first | assumption | exact wr64 (by omega))) rfl rfl ?_) | refine awl_nil ?_)
    refine rnd_n _ _ _ ?_ ⟨k + 1, hlt, rfl, rfl, rfl⟩ (by first | ((repeat' (first | exact True.intro | refine ⟨rfl, ?_⟩)); all_goals fail) | fail) (by solve | repeat' constructor)
    omega
  obtain rfl : k = b.cons.length := by omega
  generalize hL : (List.range b.cons.length).map (fun i => F (i, true)) = L
  have hLl : L.length = b.cons.length := by rw [← hL]; simp
  have hLr : L = (List.range b.cons.length).map (fun i => if i < b.cons.length then F (i, true) else 0) := by
    rw [← hL]; exact List.map_congr_left fun i hi => by rw [if_pos (List.mem_range.1 hi)]
  refine awp_ghost (ghost_freeze (E := 3) (sz := 1) (n := L.length) (rows := fRows (fun i => if i < b.cons.length then F (i, true) else 0) b.cons.length) (d := 3) (fun q => [.sc (.int .i64 (L.getD q 0))]) (by solve | repeat' constructor) rfl (by rw [fRows_len, hLl]) (by rw [hLl]; exact fRows_tree hLr)) ?_
  repeat (first | refine awp_seq ?_ | refine awp_region_lit rfl ?_ | refine awp_exit ?_ | refine awp_ret ?_ | refine awp_cond_f rfl (by first | rfl | assumption | exact dF (by omega)) ?_ | (show AWL _ _ _ (⟨_, .move _, _, _, _, _⟩ :: _) _ _ _; refine awl_pw (wt_none rfl) (pv_move rfl rfl) rfl rfl ?_) | (show AWL _ _ _ (⟨_, .assign _, _, _, _, _⟩ :: _) _ _ _; refine awl_pw (wt_none rfl) (pv_assign rfl rfl) rfl rfl ?_) | (show AWL _ _ _ (⟨_, .binOp .lss _ _ _ _, _, _, _, _⟩ :: _) _ _ _; refine awl_pw (wt_none rfl) (pv_lss rfl rfl rfl) rfl rfl ?_) | refine awl_nil ?_)
  exact body_r (h' := [workE gw gm b cp, leftM gm F]) (.cons rfl .nil) (by solve | repeat' constructor) ⟨rfl, rfl⟩
theorem arcs_p (gw : Nat) : ACall Try.prog 109 [.v (ptrV gw)] [] (fun r h' => ∃ gb, r = .v (.func (.func 112) #[] #[ptrV gb]) ∧ h' = [.cl gb 96 [.v (ptrV gw)]]) := by
  refine acall_of_awp T0 Try.func109 rfl rfl rfl ?_
  repeat (first | refine awp_seq ?_ | refine awp_region_lit rfl ?_)
  refine awl_hw (wt_none rfl) (st_box rfl rfl (by first | rfl | assumption) (by first | assumption | (simp only [cellsA]; rfl)) rfl rfl ?_)
  intro gb
  repeat (first | refine awp_seq ?_ | refine awp_region_lit rfl ?_ | (show AWL _ _ _ (⟨_, .assign _, _, _, _, _⟩ :: _) _ _ _; refine awl_pw (wt_none rfl) (pv_assign rfl rfl) rfl rfl ?_) | refine awl_nil ?_)
  refine awl_pw (wt_none rfl) (pv_makeFunc_v (fs := []) (cs := [ptrV gb]) rfl rfl rfl) rfl rfl ?_
  repeat (first | refine awp_ret ?_ | (show AWL _ _ _ (⟨_, .assign _, _, _, _, _⟩ :: _) _ _ _; refine awl_pw (wt_none rfl) (pv_assign rfl rfl) rfl rfl ?_) | refine awl_nil ?_)
  exact body_r (h' := [.cl gb 96 [.v (ptrV gw)]]) (.cons rfl .nil) (by solve | repeat' constructor) ⟨gb, rfl, rfl⟩
end Go.Proofs.Ytilhflfbbfeakaa
end
section
namespace Go.Proofs.Ytilhflfbbfeakaa
open Go Go.RowKit Go.Tl
set_option linter.unusedVariables false
set_option linter.unusedSimpArgs false
set_option maxRecDepth 100000
set_option maxHeartbeats 4000000
theorem subh_left : ∀ (l m : List Ent), SubH l (l ++ m)
  | [], _ => .nil
  | _ :: l, m => .cons .here (subh_left l m)
attribute [local irreducible] AWP AWL AOp PV LV AWT AWE
abbrev arcV (a : Arc) : AV := .ag [intA (a.1 : Nat), boolA a.2]
abbrev endV (b : BookD) (a : Arc) : AV := .ag [intA (aF b a : Nat), intA (aT b a : Nat), intA (aC a)]
def arcRow (b : BookD) (a : Arc) : List AV := [arcV a, endV b a]
def PreA (b : BookD) (F : Arc → Int) (L : List (List AV)) : Prop := ∃ l : List Arc, L = l.map (arcRow b) ∧ ∀ a ∈ l, a ∈ arcsL F b.cons.length
def FullA (b : BookD) (F : Arc → Int) (L : List (List AV)) : Prop := L = (arcsL F b.cons.length).map (arcRow b)
abbrev hcA (gb gw gm : Nat) (b : BookD) (cp : Bool) (F : Arc → Int) : List Ent := [.cl gb 96 [.v (ptrV gw)], workE gw gm b cp, leftM gm F]
abbrev arS (l gb : Nat) (u11 u12 : AV) (k : Nat) : Slots := [(0, .v (.func (.yield l) #[] #[])), (1, .v (ptrV gb)), (11, u11), (12, u12), (13, intA k)]
section
variable {b : BookD} {k g4 g5 g6 gb gw gm l : Nat} {cp : Bool} {u11 u12 : AV} {F : Arc → Int} {o : Ob} {c : ConD} {C1 : Ob → Prop} {X1 : List Ent → Prop} {v : Int}
theorem ar_4n (hF : F (k, false) = v) (hv : decide (0 < v) = false) {ops : Array Oper} (h : regF Try.f112 4 = some ops) :
    AWP Try.prog Try.f112.ntmps none (.region 4 ops true) (cutQ (fun s h => s = (37, boolA false) :: (3, intA k) :: (4, .v (ptrV g4)) :: arS l gb u11 u12 k ∧ h = .ob o :: (hcA gb gw gm b cp F ++ [.cl g4 83 [intA c.frm, intA c.to, intA c.num, intA c.price]])))
      ((3, intA k) :: (4, .v (ptrV g4)) :: (5, .v (ptrV g5)) :: arS l gb u11 u12 k) (.ob o :: (hcA gb gw gm b cp F ++ [.cl g4 83 [intA c.frm, intA c.to, intA c.num, intA c.price], .cl g5 118 [intA k, boolA false]])) := by
  cases h
  subst hF
  simp only [List.cons_append, List.nil_append]
  refine awp_treeN T0 [(0, 1), (1, 0), (2, 0), (3, 1), (4, 1), (5, 1), (6, 0), (7, 0), (8, 0), (9, 1), (10, 0), (11, 1), (12, 0), (13, 1), (14, 0), (15, 3), (16, 0), (17, 0)] (.op 0 1 (.op 1 0 (.op 2 0 (.op 3 1 (.op 4 1 (.op 5 1 (.op 6 0 (.op 7 0 (.op 8 0 (.op 9 1 (.op 10 0 (.op 11 1 (.op 12 0 (.op 13 1 (.op 14 0 (.op 15 3 (.op 16 0 (.op 17 0 .stop)))))))))))))))))) [.cl gb _ _, .cl gw _ _, leftM gm F, .cl g5 _ _] rfl (by kernel_rfl) (by solve | repeat' constructor) ?_
  refine awt_lo rfl (wt_none rfl) (lv_cl1 T0 rfl rfl rfl (by solve | repeat' constructor) (by first | rfl | assumption)) rfl rfl rfl ?_
  refine awt_po rfl (wt_none rfl) (pv_nilCheck rfl rfl) rfl rfl ?_
  refine awt_po rfl (wt_none rfl) (pv_fa T0 rfl rfl rfl (by simp; rfl)) rfl rfl ?_
  refine awt_lo rfl (wt_none rfl) (lv_cl1 T0 rfl rfl rfl (by solve | repeat' constructor) (by first | rfl | assumption)) rfl rfl rfl ?_
  refine awt_lo rfl (wt_none rfl) (lv_cla T0 rfl rfl rfl (by solve | repeat' constructor) rfl) rfl rfl rfl ?_
  refine awt_lo rfl (wt_none rfl) (lv_lookupF Ma (k := (k, false)) rfl rfl rfl rfl (by solve | repeat' constructor) rfl) rfl rfl rfl ?_
  refine awt_po rfl (wt_none rfl) (pv_gtr rfl rfl rfl) rfl rfl ?_
  refine awt_po rfl (wt_none rfl) (pv_move rfl rfl) rfl rfl ?_
  refine awt_sk0 rfl (wf_some rfl rfl rfl rfl (by first | rfl | assumption | exact dT (by omega) | exact dF (by omega))) rfl rfl (fun _ _ h => h) rfl ?_
  refine awt_sk1 rfl (wf_some rfl rfl rfl rfl (by first | rfl | assumption | exact dT (by omega) | exact dF (by omega))) rfl rfl (fun _ _ h => h) rfl ?_
  refine awt_sk0 rfl (wf_some rfl rfl rfl rfl (by first | rfl | assumption | exact dT (by omega) | exact dF (by omega))) rfl rfl (fun _ _ h => h) rfl ?_
  refine awt_sk1 rfl (wf_some rfl rfl rfl rfl (by first | rfl | assumption | exact dT (by omega) | exact dF (by omega))) rfl rfl (fun _ _ h => h) rfl ?_
  refine awt_sk0 rfl (wf_some rfl rfl rfl rfl (by first | rfl | assumption | exact dT (by omega) | exact dF (by omega))) rfl rfl (fun _ _ h => h) rfl ?_
  refine awt_sk1 rfl (wf_some rfl rfl rfl rfl (by first | rfl | assumption | exact dT (by omega) | exact dF (by omega))) rfl rfl (fun _ _ h => h) rfl ?_
  refine awt_sk0 rfl (wf_some rfl rfl rfl rfl (by first | rfl | assumption | exact dT (by omega) | exact dF (by omega))) rfl rfl (fun _ _ h => h) rfl ?_
  refine awt_sk3 rfl (wf_some rfl rfl rfl rfl (by first | rfl | assumption | exact dT (by omega) | exact dF (by omega))) rfl rfl ?_
  first
    | refine awe_p rfl (wt_some' rfl rfl rfl rfl (by first | rfl | assumption | exact dT (by omega) | exact dF (by omega))) (pv_not rfl rfl) rfl rfl ?_
    | refine awe_sku rfl (wu_some rfl rfl rfl rfl) rfl rfl ?_
    | refine awe_sk rfl (wf_some rfl rfl rfl rfl (by first | rfl | assumption | exact dT (by omega) | exact dF (by omega))) rfl rfl ?_
  first
    | refine awe_p rfl (wt_none rfl) (pv_pick_t rfl rfl (by first | rfl | assumption | exact dT (by omega) | exact dF (by omega)) rfl) rfl rfl ?_
    | refine awe_p rfl (wt_none rfl) (pv_pick_f rfl rfl (by first | rfl | assumption | exact dT (by omega) | exact dF (by omega)) rfl) rfl rfl ?_
  refine awe_end ?_
  exact cut_n ⟨rfl, rfl⟩ (by first | ((repeat' (first | exact True.intro | refine ⟨rfl, ?_⟩)); all_goals fail) | fail) (by solve | repeat' constructor)
theorem ar_4y (hF : F (k, false) = v) (hv : decide (0 < v) = true) (hy : YCall Try.prog l [.ag [intA k, boolA false], .ag [intA c.frm, intA c.to, intA (-1)]] (.ob o :: hcA gb gw gm b cp F) (fun r h' => ∃ rb, r = boolA rb ∧ ((rb = true ∧ ∃ o', h' = .ob o' :: hcA gb gw gm b cp F ∧ C1 o') ∨ (rb = false ∧ X1 h')))) {ops : Array Oper} (h : regF Try.f112 4 = some ops) :
    AWP Try.prog Try.f112.ntmps none (.region 4 ops true) (cutQ (fun s h => (∃ o1, C1 o1 ∧ s = (37, boolA false) :: (3, intA k) :: (4, .v (ptrV g4)) :: arS l gb u11 u12 k ∧ h = .ob o1 :: (hcA gb gw gm b cp F ++ [.cl g4 83 [intA c.frm, intA c.to, intA c.num, intA c.price]])) ∨ (X1 h ∧ s = [(37, boolA true)])))
      ((3, intA k) :: (4, .v (ptrV g4)) :: (5, .v (ptrV g5)) :: arS l gb u11 u12 k) (.ob o :: (hcA gb gw gm b cp F ++ [.cl g4 83 [intA c.frm, intA c.to, intA c.num, intA c.price], .cl g5 118 [intA k, boolA false]])) := by
  cases h
  subst hF
  refine awp_treeN T0 [(0, 1), (1, 0), (2, 0), (3, 1), (4, 1), (5, 1), (6, 0), (7, 0), (8, 0), (9, 1), (10, 0), (11, 1), (12, 0), (13, 1), (14, 0), (15, 3), (16, 0), (17, 0)] (.op 0 1 (.op 1 0 (.op 2 0 (.op 3 1 (.op 4 1 (.op 5 1 (.op 6 0 (.op 7 0 (.op 8 0 (.op 9 1 (.op 10 0 (.op 11 1 (.op 12 0 (.op 13 1 (.op 14 0 (.op 15 3 (.op 16 0 (.op 17 0 .stop)))))))))))))))))) [.cl gb _ _, .cl gw _ _, leftM gm F, .cl g4 _ _, .cl g5 _ _] rfl (by kernel_rfl) (by solve | repeat' constructor) ?_
  refine awt_lo rfl (wt_none rfl) (lv_cl1 T0 rfl rfl rfl (by solve | repeat' constructor) (by first | rfl | assumption)) rfl rfl rfl ?_
  refine awt_po rfl (wt_none rfl) (pv_nilCheck rfl rfl) rfl rfl ?_
  refine awt_po rfl (wt_none rfl) (pv_fa T0 rfl rfl rfl (by simp; rfl)) rfl rfl ?_
  refine awt_lo rfl (wt_none rfl) (lv_cl1 T0 rfl rfl rfl (by solve | repeat' constructor) (by first | rfl | assumption)) rfl rfl rfl ?_
  refine awt_lo rfl (wt_none rfl) (lv_cla T0 rfl rfl rfl (by solve | repeat' constructor) rfl) rfl rfl rfl ?_
  refine awt_lo rfl (wt_none rfl) (lv_lookupF Ma (k := (k, false)) rfl rfl rfl rfl (by solve | repeat' constructor) rfl) rfl rfl rfl ?_
  refine awt_po rfl (wt_none rfl) (pv_gtr rfl rfl rfl) rfl rfl ?_
  refine awt_po rfl (wt_none rfl) (pv_move rfl rfl) rfl rfl ?_
  refine awt_po rfl (wt_some' rfl rfl rfl rfl (by first | rfl | assumption | exact dT (by omega) | exact dF (by omega))) (pv_move rfl rfl) rfl rfl ?_
  refine awt_lo rfl (wt_some' rfl rfl rfl rfl (by first | rfl | assumption | exact dT (by omega) | exact dF (by omega))) (lv_cla T0 rfl rfl rfl (by solve | repeat' constructor) rfl) rfl rfl rfl ?_
  refine awt_po rfl (wt_some' rfl rfl rfl rfl (by first | rfl | assumption | exact dT (by omega) | exact dF (by omega))) (pv_fa T0 rfl rfl rfl (by simp; rfl)) rfl rfl ?_
  refine awt_lo rfl (wt_some' rfl rfl rfl rfl (by first | rfl | assumption | exact dT (by omega) | exact dF (by omega))) (lv_cl1 T0 rfl rfl rfl (by solve | repeat' constructor) (by first | rfl | assumption)) rfl rfl rfl ?_
  refine awt_po rfl (wt_some' rfl rfl rfl rfl (by first | rfl | assumption | exact dT (by omega) | exact dF (by omega))) (pv_fa T0 rfl rfl rfl (by simp; rfl)) rfl rfl ?_
  refine awt_lo rfl (wt_some' rfl rfl rfl rfl (by first | rfl | assumption | exact dT (by omega) | exact dF (by omega))) (lv_cl1 T0 rfl rfl rfl (by solve | repeat' constructor) (by first | rfl | assumption)) rfl rfl rfl ?_
  refine awt_po rfl (wt_some' rfl rfl rfl rfl (by first | rfl | assumption | exact dT (by omega) | exact dF (by omega))) (pv_build_arr T0 rfl rfl rfl (by simp only [Value.cells, List.toList_toArray, List.map_cons, List.map_nil]; rfl) (by first | ((repeat' (first | exact BParts.nil | apply BParts.cons | rfl)); all_goals fail) | fail) (by first | ((repeat' (first | exact FillA.nil | exact Sp.done | apply FillA.cons | apply Sp.put | apply Sp.skip | (simp only [cellsA]; rfl) | rfl)); all_goals fail) | fail)) rfl rfl ?_
  refine awt_s (md := fun _ => True) rfl (wt_some' rfl rfl rfl rfl (by first | rfl | assumption | exact dT (by omega) | exact dF (by omega))) (aop_ycall (hy) rfl rfl rfl rfl (by solve | repeat' constructor) (by first | ((repeat' (first | exact SubH.refl _ | apply SubH.cons | exact Pick.here | apply Pick.there)); all_goals fail) | fail) (fun _ _ => trivial) ?_)
  rintro r h' ⟨rb, rfl, hq⟩
  first
    | refine awe_p rfl (wt_some' rfl rfl rfl rfl (by first | rfl | assumption | exact dT (by omega) | exact dF (by omega))) (pv_not rfl rfl) rfl rfl ?_
    | refine awe_sku rfl (wu_some rfl rfl rfl rfl) rfl rfl ?_
    | refine awe_sk rfl (wf_some rfl rfl rfl rfl (by first | rfl | assumption | exact dT (by omega) | exact dF (by omega))) rfl rfl ?_
  first
    | refine awe_p rfl (wt_none rfl) (pv_pick_t rfl rfl (by first | rfl | assumption | exact dT (by omega) | exact dF (by omega)) rfl) rfl rfl ?_
    | refine awe_p rfl (wt_none rfl) (pv_pick_f rfl rfl (by first | rfl | assumption | exact dT (by omega) | exact dF (by omega)) rfl) rfl rfl ?_
  refine awe_end ?_
  rcases hq with ⟨rfl, o1, rfl, hC1⟩ | ⟨rfl, hX1⟩
  · exact cut_n (.inl ⟨o1, hC1, rfl, rfl⟩) (by first | ((repeat' (first | exact True.intro | refine ⟨rfl, ?_⟩)); all_goals fail) | fail) (by solve | repeat' constructor)
  · exact cut_n (.inr ⟨hX1, rfl⟩) (by first | ((repeat' (first | exact True.intro | refine ⟨rfl, ?_⟩)); all_goals fail) | fail) (subh_left _ _)
theorem ar_6n (hF : F (k, true) = v) (hv : decide (0 < v) = false) {ops : Array Oper} (h : regF Try.f112 6 = some ops) :
    AWP Try.prog Try.f112.ntmps none (.region 6 ops true) (cutQ (fun s h => s = (57, boolA false) :: arS l gb u11 u12 k ∧ h = .ob o :: hcA gb gw gm b cp F))
      ((3, intA k) :: (4, .v (ptrV g4)) :: (6, .v (ptrV g6)) :: arS l gb u11 u12 k) (.ob o :: (hcA gb gw gm b cp F ++ [.cl g4 83 [intA c.frm, intA c.to, intA c.num, intA c.price], .cl g6 118 [intA k, boolA true]])) := by
  cases h
  subst hF
  simp only [List.cons_append, List.nil_append]
  refine awp_treeN T0 [(0, 1), (1, 0), (2, 0), (3, 1), (4, 1), (5, 1), (6, 0), (7, 0), (8, 0), (9, 1), (10, 0), (11, 1), (12, 0), (13, 1), (14, 0), (15, 3), (16, 0), (17, 0)] (.op 0 1 (.op 1 0 (.op 2 0 (.op 3 1 (.op 4 1 (.op 5 1 (.op 6 0 (.op 7 0 (.op 8 0 (.op 9 1 (.op 10 0 (.op 11 1 (.op 12 0 (.op 13 1 (.op 14 0 (.op 15 3 (.op 16 0 (.op 17 0 .stop)))))))))))))))))) [.cl gb _ _, .cl gw _ _, leftM gm F, .cl g6 _ _] rfl (by kernel_rfl) (by solve | repeat' constructor) ?_
  refine awt_lo rfl (wt_none rfl) (lv_cl1 T0 rfl rfl rfl (by solve | repeat' constructor) (by first | rfl | assumption)) rfl rfl rfl ?_
  refine awt_po rfl (wt_none rfl) (pv_nilCheck rfl rfl) rfl rfl ?_
  refine awt_po rfl (wt_none rfl) (pv_fa T0 rfl rfl rfl (by simp; rfl)) rfl rfl ?_
  refine awt_lo rfl (wt_none rfl) (lv_cl1 T0 rfl rfl rfl (by solve | repeat' constructor) (by first | rfl | assumption)) rfl rfl rfl ?_
  refine awt_lo rfl (wt_none rfl) (lv_cla T0 rfl rfl rfl (by solve | repeat' constructor) rfl) rfl rfl rfl ?_
  refine awt_lo rfl (wt_none rfl) (lv_lookupF Ma (k := (k, true)) rfl rfl rfl rfl (by solve | repeat' constructor) rfl) rfl rfl rfl ?_
  refine awt_po rfl (wt_none rfl) (pv_gtr rfl rfl rfl) rfl rfl ?_
  refine awt_po rfl (wt_none rfl) (pv_move rfl rfl) rfl rfl ?_
  refine awt_sk0 rfl (wf_some rfl rfl rfl rfl (by first | rfl | assumption | exact dT (by omega) | exact dF (by omega))) rfl rfl (fun _ _ h => h) rfl ?_
  refine awt_sk1 rfl (wf_some rfl rfl rfl rfl (by first | rfl | assumption | exact dT (by omega) | exact dF (by omega))) rfl rfl (fun _ _ h => h) rfl ?_
  refine awt_sk0 rfl (wf_some rfl rfl rfl rfl (by first | rfl | assumption | exact dT (by omega) | exact dF (by omega))) rfl rfl (fun _ _ h => h) rfl ?_
  refine awt_sk1 rfl (wf_some rfl rfl rfl rfl (by first | rfl | assumption | exact dT (by omega) | exact dF (by omega))) rfl rfl (fun _ _ h => h) rfl ?_
  refine awt_sk0 rfl (wf_some rfl rfl rfl rfl (by first | rfl | assumption | exact dT (by omega) | exact dF (by omega))) rfl rfl (fun _ _ h => h) rfl ?_
  refine awt_sk1 rfl (wf_some rfl rfl rfl rfl (by first | rfl | assumption | exact dT (by omega) | exact dF (by omega))) rfl rfl (fun _ _ h => h) rfl ?_
  refine awt_sk0 rfl (wf_some rfl rfl rfl rfl (by first | rfl | assumption | exact dT (by omega) | exact dF (by omega))) rfl rfl (fun _ _ h => h) rfl ?_
  refine awt_sk3 rfl (wf_some rfl rfl rfl rfl (by first | rfl | assumption | exact dT (by omega) | exact dF (by omega))) rfl rfl ?_
  first
    | refine awe_p rfl (wt_some' rfl rfl rfl rfl (by first | rfl | assumption | exact dT (by omega) | exact dF (by omega))) (pv_not rfl rfl) rfl rfl ?_
    | refine awe_sku rfl (wu_some rfl rfl rfl rfl) rfl rfl ?_
    | refine awe_sk rfl (wf_some rfl rfl rfl rfl (by first | rfl | assumption | exact dT (by omega) | exact dF (by omega))) rfl rfl ?_
  first
    | refine awe_p rfl (wt_none rfl) (pv_pick_t rfl rfl (by first | rfl | assumption | exact dT (by omega) | exact dF (by omega)) rfl) rfl rfl ?_
    | refine awe_p rfl (wt_none rfl) (pv_pick_f rfl rfl (by first | rfl | assumption | exact dT (by omega) | exact dF (by omega)) rfl) rfl rfl ?_
  refine awe_end ?_
  exact cut_n ⟨rfl, rfl⟩ (by first | ((repeat' (first | exact True.intro | refine ⟨rfl, ?_⟩)); all_goals fail) | fail) (by solve | repeat' constructor)
theorem ar_6y (hF : F (k, true) = v) (hv : decide (0 < v) = true) (hy : YCall Try.prog l [.ag [intA k, boolA true], .ag [intA c.to, intA c.frm, intA 1]] (.ob o :: hcA gb gw gm b cp F) (fun r h' => ∃ rb, r = boolA rb ∧ ((rb = true ∧ ∃ o', h' = .ob o' :: hcA gb gw gm b cp F ∧ C1 o') ∨ (rb = false ∧ X1 h')))) {ops : Array Oper} (h : regF Try.f112 6 = some ops) :
    AWP Try.prog Try.f112.ntmps none (.region 6 ops true) (cutQ (fun s h => (∃ o1, C1 o1 ∧ s = (57, boolA false) :: arS l gb u11 u12 k ∧ h = .ob o1 :: hcA gb gw gm b cp F) ∨ (X1 h ∧ s = [(57, boolA true)])))
      ((3, intA k) :: (4, .v (ptrV g4)) :: (6, .v (ptrV g6)) :: arS l gb u11 u12 k) (.ob o :: (hcA gb gw gm b cp F ++ [.cl g4 83 [intA c.frm, intA c.to, intA c.num, intA c.price], .cl g6 118 [intA k, boolA true]])) := by
  cases h
  subst hF
  refine awp_treeN T0 [(0, 1), (1, 0), (2, 0), (3, 1), (4, 1), (5, 1), (6, 0), (7, 0), (8, 0), (9, 1), (10, 0), (11, 1), (12, 0), (13, 1), (14, 0), (15, 3), (16, 0), (17, 0)] (.op 0 1 (.op 1 0 (.op 2 0 (.op 3 1 (.op 4 1 (.op 5 1 (.op 6 0 (.op 7 0 (.op 8 0 (.op 9 1 (.op 10 0 (.op 11 1 (.op 12 0 (.op 13 1 (.op 14 0 (.op 15 3 (.op 16 0 (.op 17 0 .stop)))))))))))))))))) [.cl gb _ _, .cl gw _ _, leftM gm F, .cl g4 _ _, .cl g6 _ _] rfl (by kernel_rfl) (by solve | repeat' constructor) ?_
  refine awt_lo rfl (wt_none rfl) (lv_cl1 T0 rfl rfl rfl (by solve | repeat' constructor) (by first | rfl | assumption)) rfl rfl rfl ?_
  refine awt_po rfl (wt_none rfl) (pv_nilCheck rfl rfl) rfl rfl ?_
  refine awt_po rfl (wt_none rfl) (pv_fa T0 rfl rfl rfl (by simp; rfl)) rfl rfl ?_
  refine awt_lo rfl (wt_none rfl) (lv_cl1 T0 rfl rfl rfl (by solve | repeat' constructor) (by first | rfl | assumption)) rfl rfl rfl ?_
  refine awt_lo rfl (wt_none rfl) (lv_cla T0 rfl rfl rfl (by solve | repeat' constructor) rfl) rfl rfl rfl ?_
  refine awt_lo rfl (wt_none rfl) (lv_lookupF Ma (k := (k, true)) rfl rfl rfl rfl (by solve | repeat' constructor) rfl) rfl rfl rfl ?_
  refine awt_po rfl (wt_none rfl) (pv_gtr rfl rfl rfl) rfl rfl ?_
  refine awt_po rfl (wt_none rfl) (pv_move rfl rfl) rfl rfl ?_
  refine awt_po rfl (wt_some' rfl rfl rfl rfl (by first | rfl | assumption | exact dT (by omega) | exact dF (by omega))) (pv_move rfl rfl) rfl rfl ?_
  refine awt_lo rfl (wt_some' rfl rfl rfl rfl (by first | rfl | assumption | exact dT (by omega) | exact dF (by omega))) (lv_cla T0 rfl rfl rfl (by solve | repeat' constructor) rfl) rfl rfl rfl ?_
  refine awt_po rfl (wt_some' rfl rfl rfl rfl (by first | rfl | assumption | exact dT (by omega) | exact dF (by omega))) (pv_fa T0 rfl rfl rfl (by simp; rfl)) rfl rfl ?_
  refine awt_lo rfl (wt_some' rfl rfl rfl rfl (by first | rfl | assumption | exact dT (by omega) | exact dF (by omega))) (lv_cl1 T0 rfl rfl rfl (by solve | repeat' constructor) (by first | rfl | assumption)) rfl rfl rfl ?_
  refine awt_po rfl (wt_some' rfl rfl rfl rfl (by first | rfl | assumption | exact dT (by omega) | exact dF (by omega))) (pv_fa T0 rfl rfl rfl (by simp; rfl)) rfl rfl ?_
  refine awt_lo rfl (wt_some' rfl rfl rfl rfl (by first | rfl | assumption | exact dT (by omega) | exact dF (by omega))) (lv_cl1 T0 rfl rfl rfl (by solve | repeat' constructor) (by first | rfl | assumption)) rfl rfl rfl ?_
  refine awt_po rfl (wt_some' rfl rfl rfl rfl (by first | rfl | assumption | exact dT (by omega) | exact dF (by omega))) (pv_build_arr T0 rfl rfl rfl (by simp only [Value.cells, List.toList_toArray, List.map_cons, List.map_nil]; rfl) (by first | ((repeat' (first | exact BParts.nil | apply BParts.cons | rfl)); all_goals fail) | fail) (by first | ((repeat' (first | exact FillA.nil | exact Sp.done | apply FillA.cons | apply Sp.put | apply Sp.skip | (simp only [cellsA]; rfl) | rfl)); all_goals fail) | fail)) rfl rfl ?_
  refine awt_s (md := fun _ => True) rfl (wt_some' rfl rfl rfl rfl (by first | rfl | assumption | exact dT (by omega) | exact dF (by omega))) (aop_ycall (hy) rfl rfl rfl rfl (by solve | repeat' constructor) (by first | ((repeat' (first | exact SubH.refl _ | apply SubH.cons | exact Pick.here | apply Pick.there)); all_goals fail) | fail) (fun _ _ => trivial) ?_)
  rintro r h' ⟨rb, rfl, hq⟩
  first
    | refine awe_p rfl (wt_some' rfl rfl rfl rfl (by first | rfl | assumption | exact dT (by omega) | exact dF (by omega))) (pv_not rfl rfl) rfl rfl ?_
    | refine awe_sku rfl (wu_some rfl rfl rfl rfl) rfl rfl ?_
    | refine awe_sk rfl (wf_some rfl rfl rfl rfl (by first | rfl | assumption | exact dT (by omega) | exact dF (by omega))) rfl rfl ?_
  first
    | refine awe_p rfl (wt_none rfl) (pv_pick_t rfl rfl (by first | rfl | assumption | exact dT (by omega) | exact dF (by omega)) rfl) rfl rfl ?_
    | refine awe_p rfl (wt_none rfl) (pv_pick_f rfl rfl (by first | rfl | assumption | exact dT (by omega) | exact dF (by omega)) rfl) rfl rfl ?_
  refine awe_end ?_
  rcases hq with ⟨rfl, o1, rfl, hC1⟩ | ⟨rfl, hX1⟩
  · exact cut_n (.inl ⟨o1, hC1, rfl, rfl⟩) (by first | ((repeat' (first | exact True.intro | refine ⟨rfl, ?_⟩)); all_goals fail) | fail) (by solve | repeat' constructor)
  · exact cut_n (.inr ⟨hX1, rfl⟩) (by first | ((repeat' (first | exact True.intro | refine ⟨rfl, ?_⟩)); all_goals fail) | fail) (subh_left _ _)
end
theorem cutQ_mono {M M' : Slots → List Ent → Prop} {e : Exit} {s : Slots} {h : List Ent} (hm : ∀ s h, M' s h → M s h) : cutQ M' e s h → cutQ M e s h := fun ⟨he, s', h', h1, h2, h3⟩ => ⟨he, s', h', h1, h2, hm _ _ h3⟩
theorem arcs_sub {f : Arc → Int} {k n : Nat} (h : k ≤ n) {a : Arc} (ha : a ∈ arcsL f k) : a ∈ arcsL f n := by
  rw [mem_arcs] at ha ⊢
  exact ⟨by omega, ha.2⟩
theorem arcs1_p (gb gw gm : Nat) (b : BookD) (cp : Bool) (F : Arc → Int) (hv : VBook b) : ISpecS Try.prog 112 (fun y => [] ++ [y] ++ [ptrV gb].map AV.v) (hcA gb gw gm b cp F) (PreA b F) (FullA b F) := by
  have hlen := hv.len
  intro l C X hround o hC
  show ACall Try.prog 112 [.v (.func (.yield l) #[] #[]), .v (ptrV gb)] _ _
  refine acall_of_awp T0 Try.func112 rfl rfl rfl ?_
  repeat (first | refine awp_seq ?_ | refine awp_block ?_ | refine awp_region_lit rfl ?_ | ((first | (show AWL _ _ _ (⟨_, .move _, _, _, _, _⟩ :: _) _ _ _; refine awl_pw ?w (pv_move rfl rfl) rfl rfl ?_) | (show AWL _ _ _ (⟨_, .load _ _, _, _, _, _⟩ :: _) _ _ _; refine awl_lw ?w (lv_cl1 T0 rfl rfl rfl (by solve | repeat' constructor) (by first | rfl | assumption)) rfl rfl rfl ?_) | (show AWL _ _ _ (⟨_, .fieldAddr _ _ _, _, _, _, _⟩ :: _) _ _ _; refine awl_pw ?w (pv_fa T0 rfl rfl rfl (by simp; rfl)) rfl rfl ?_) | (show AWL _ _ _ (⟨_, .call ⟨.builtin .len, _, _⟩, _, _, _, _⟩ :: _) _ _ _; refine awl_pw ?w (pv_len_t T0 rfl rfl rfl) rfl rfl ?_) | (show AWL _ _ _ (⟨_, .nilCheck _, _, _, _, _⟩ :: _) _ _ _; refine awl_pw ?w (pv_nilCheck rfl rfl) rfl rfl ?_)); case w => first | exact wt_none rfl | exact wt_some' rfl rfl rfl rfl (by first | rfl | assumption | exact dT (by omega) | exact dF (by omega))) | refine awl_nil ?_)
  refine awp_loop (fun m s h => ∃ (k : Nat) (o' : Ob), k ≤ b.cons.length ∧ m = b.cons.length - k ∧ C ((arcsL F k).map (arcRow b)) o' ∧ s = arS l gb (.t (consT cp b.cons)) (intA b.cons.length) k ∧ h = .ob o' :: hcA gb gw gm b cp F) ?_ ⟨0, o, Nat.zero_le _, rfl, hC, rfl, rfl⟩ (by first | ((repeat' (first | exact True.intro | refine ⟨rfl, ?_⟩)); all_goals fail) | fail) (by solve | repeat' constructor)
  rintro m s h ⟨k, o', hk, rfl, hC', rfl, rfl⟩
  by_cases hlt : k < b.cons.length
  case neg =>
    obtain rfl : k = b.cons.length := by omega
    repeat (first | refine awp_seq ?_ | refine awp_region_lit rfl ?_ | refine awp_exit ?_ | refine then_x ?_ | refine blk_x ?_ | refine rnd_x ?_ | refine awp_cond_f rfl (by first | rfl | assumption | exact dF (by omega)) ?_ | ((first | (show AWL _ _ _ (⟨_, .binOp .lss _ _ _ _, _, _, _, _⟩ :: _) _ _ _; refine awl_pw ?w (pv_lss rfl rfl rfl) rfl rfl ?_)); case w => first | exact wt_none rfl | exact wt_some' rfl rfl rfl rfl (by first | rfl | assumption | exact dT (by omega) | exact dF (by omega))) | refine awl_nil ?_)
    exact body_n .nil (SubH.refl _) (.inl ⟨_, o', rfl, hC', rfl⟩)
  have hfr := hv.frm k hlt
  have hto := hv.to k hlt
  have hpre : ∀ a, a.1 = k → 0 < F a → ∀ l' : List Arc, (∀ a' ∈ l', a' ∈ arcsL F b.cons.length) → PreA b F (l'.map (arcRow b) ++ [arcRow b a]) := fun a ha hFa l' hl' => ⟨l' ++ [a], by rw [List.map_append]; rfl, fun a' h => by
    rcases List.mem_append.1 h with h | h
    · exact hl' a' h
    · obtain rfl := List.mem_singleton.1 h
      exact mem_arcs.2 ⟨by omega, hFa⟩⟩
  have hya : ∀ a o1, a.1 = k → 0 < F a → ∀ l' : List Arc, (∀ a' ∈ l', a' ∈ arcsL F b.cons.length) → C (l'.map (arcRow b)) o1 → YCall Try.prog l (arcRow b a) (.ob o1 :: hcA gb gw gm b cp F) (fun r h' => ∃ rb, r = boolA rb ∧ ((rb = true ∧ ∃ o', h' = .ob o' :: hcA gb gw gm b cp F ∧ C ((l' ++ [a]).map (arcRow b)) o') ∨ (rb = false ∧ ∃ L, PreA b F L ∧ X L h'))) := fun a o1 ha hFa l' hl' hC1 =>
    (hround _ _ (hpre a ha hFa l' hl') o1 hC1).mono fun r h' hq => by
      rcases hq with ⟨rfl, o2, rfl, h2⟩ | ⟨rfl, hX⟩
      · exact ⟨true, rfl, .inl ⟨rfl, o2, rfl, by rw [List.map_append]; exact h2⟩⟩
      · exact ⟨false, rfl, .inr ⟨rfl, _, hpre a ha hFa l' hl', hX⟩⟩
  have eF : ∀ q : Int, 0 ≤ q → intA q = intA (q.toNat : Int) := fun q hq => by rw [Int.toNat_of_nonneg hq]
  have hr1 : arcRow b (k, false) = [.ag [intA k, boolA false], .ag [intA (b.cons.getD k default).frm, intA (b.cons.getD k default).to, intA (-1)]] := by
    rw [eF _ hfr.1, eF _ hto.1]; rfl
  have hr2 : arcRow b (k, true) = [.ag [intA k, boolA true], .ag [intA (b.cons.getD k default).to, intA (b.cons.getD k default).frm, intA 1]] := by
    rw [eF _ hfr.1, eF _ hto.1]; rfl
  have hsub := fun a (ha : a ∈ arcsL F k) => arcs_sub hk ha
  repeat (first | refine awp_seq ?_ | refine awp_block ?_ | refine awp_region_lit rfl ?_ | refine awp_skip ?_ | refine awp_cond_t rfl (by first | rfl | assumption | exact dT (by omega)) ?_ | ((first | (show AWL _ _ _ (⟨_, .move _, _, _, _, _⟩ :: _) _ _ _; refine awl_pw ?w (pv_move rfl rfl) rfl rfl ?_) | (show AWL _ _ _ (⟨_, .load _ _, _, _, _, _⟩ :: _) _ _ _; refine awl_lw ?w (lv_elt_ag T0 rfl rfl rfl rfl (by solve | repeat' constructor)) rfl rfl rfl ?_) | (show AWL _ _ _ (⟨_, .indexAddr _ _ _, _, _, _, _⟩ :: _) _ _ _; refine awl_pw ?w (pv_ix_t T0 rfl rfl rfl rfl (by omega) (by first | exact Int.toNat_natCast _ | rfl)) rfl rfl ?_) | (show AWL _ _ _ (⟨_, .binOp .lss _ _ _ _, _, _, _, _⟩ :: _) _ _ _; refine awl_pw ?w (pv_lss rfl rfl rfl) rfl rfl ?_)); case w => first | exact wt_none rfl | exact wt_some' rfl rfl rfl rfl (by first | rfl | assumption | exact dT (by omega) | exact dF (by omega))) | refine awl_nil ?_)
  refine awl_hw (by first | exact wt_none rfl | exact wt_some' rfl rfl rfl rfl (by first | rfl | assumption | exact dT (by omega) | exact dF (by omega))) (st_alloc T0 rfl rfl rfl rfl (by simp only [Value.cells, List.toList_toArray, List.map_cons, List.map_nil]; rfl) ?_)
  intro g4
  repeat (first | refine awp_seq ?_ | refine awp_region_lit rfl ?_ | ((first | (show AWL _ _ _ (⟨_, .move _, _, _, _, _⟩ :: _) _ _ _; refine awl_pw ?w (pv_move rfl rfl) rfl rfl ?_) | (show AWL _ _ _ (⟨_, .assign _, _, _, _, _⟩ :: _) _ _ _; refine awl_pw ?w (pv_assign rfl rfl) rfl rfl ?_) | (show AWL _ _ _ (⟨_, .build _ _, _, _, _, _⟩ :: _) _ _ _; refine awl_pw ?w (pv_build T0 rfl rfl rfl (by simp only [Value.cells, List.toList_toArray, List.map_cons, List.map_nil]; rfl) (by first | ((repeat' (first | exact BParts.nil | apply BParts.cons | rfl)); all_goals fail) | fail) (by first | ((repeat' (first | exact FillA.nil | exact Sp.done | apply FillA.cons | apply Sp.put | apply Sp.skip | (simp only [cellsA]; rfl) | rfl)); all_goals fail) | fail)) rfl rfl ?_)); case w => first | exact wt_none rfl | exact wt_some' rfl rfl rfl rfl (by first | rfl | assumption | exact dT (by omega) | exact dF (by omega))) | (show AWL _ _ _ (⟨_, .store _ _ _, _, _, _, _⟩ :: _) _ _ _; refine awl_hw (by first | exact wt_none rfl | exact wt_some' rfl rfl rfl rfl (by first | rfl | assumption | exact dT (by omega) | exact dF (by omega))) (st_store T0 rfl rfl rfl rfl rfl (by first | assumption | (simp only [cellsA]; rfl)) rfl rfl rfl (by solve | repeat' constructor) (by solve | repeat' constructor) trivial ?_)) | refine awl_nil ?_)
  refine awl_hw (by first | exact wt_none rfl | exact wt_some' rfl rfl rfl rfl (by first | rfl | assumption | exact dT (by omega) | exact dF (by omega))) (st_alloc T0 rfl rfl rfl rfl (by simp only [Value.cells, List.toList_toArray, List.map_cons, List.map_nil]; rfl) ?_)
  intro g5
  repeat (first | refine awp_seq ?_ | (show AWL _ _ _ (⟨_, .store _ _ _, _, _, _, _⟩ :: _) _ _ _; refine awl_hw (by first | exact wt_none rfl | exact wt_some' rfl rfl rfl rfl (by first | rfl | assumption | exact dT (by omega) | exact dF (by omega))) (st_store T0 rfl rfl rfl rfl rfl (by first | assumption | (simp only [cellsA]; rfl)) rfl rfl rfl (by solve | repeat' constructor) (by solve | repeat' constructor) trivial ?_)) | refine awl_nil ?_)
  refine awp_cut (fun s h => (∃ o1, C ((arcsL F k ++ if 0 < F (k, false) then [(k, false)] else []).map (arcRow b)) o1 ∧ s = (37, boolA false) :: (3, intA k) :: (4, .v (ptrV g4)) :: arS l gb (.t (consT cp b.cons)) (intA b.cons.length) k ∧ h = .ob o1 :: (hcA gb gw gm b cp F ++ [.cl g4 83 [intA (b.cons.getD k default).frm, intA (b.cons.getD k default).to, intA (b.cons.getD k default).num, intA (b.cons.getD k default).price]])) ∨ ((∃ L, PreA b F L ∧ X L h) ∧ s = [(37, boolA true)])) ?_ ?_
  · by_cases hF : 0 < F (k, false)
    · refine awp_mono (awp_weak (by first | ((repeat' (first | exact True.intro | refine ⟨rfl, ?_⟩)); all_goals fail) | fail) (by solve | repeat' constructor) (ar_4y (b := b) (k := k) (g4 := g4) (g5 := g5) (gb := gb) (gw := gw) (gm := gm) (l := l) (cp := cp) (u11 := .t (consT cp b.cons)) (u12 := intA b.cons.length) (F := F) (o := o') (c := b.cons.getD k default) rfl (decide_eq_true hF) (by rw [← hr1]; exact hya (k, false) o' rfl hF _ hsub hC') rfl)) (fun e s h hh => cutQ_mono (fun s h hm => ?_) hh)
      rw [if_pos hF]
      exact hm
    · refine awp_mono (awp_weak (by first | ((repeat' (first | exact True.intro | refine ⟨rfl, ?_⟩)); all_goals fail) | fail) (by solve | repeat' constructor) (ar_4n (b := b) (k := k) (g4 := g4) (g5 := g5) (gb := gb) (gw := gw) (gm := gm) (l := l) (cp := cp) (u11 := .t (consT cp b.cons)) (u12 := intA b.cons.length) (F := F) (o := o') (c := b.cons.getD k default) rfl (decide_eq_false hF) rfl)) (fun e s h hh => cutQ_mono (fun s h hm => ?_) hh)
      rw [if_neg hF, List.append_nil]
      exact .inl ⟨o', hC', hm⟩
  rintro s h (⟨o1, hC1, rfl, rfl⟩ | ⟨hX, rfl⟩)
  case inr =>
    repeat (first | refine awp_ret ?_ | refine then_r ?_ | refine blk_r ?_ | refine rnd_r ?_ | refine awp_cond_t rfl (by first | rfl | assumption | exact dT (by omega)) ?_)
    exact body_r .nil (SubH.refl _) (.inr hX)
  have hsub1 : ∀ a ∈ arcsL F k ++ (if 0 < F (k, false) then [((k, false) : Arc)] else []), a ∈ arcsL F b.cons.length := fun a ha => by
    rcases List.mem_append.1 ha with ha | ha
    · exact hsub a ha
    · split at ha
      · rename_i hF
        obtain rfl := List.mem_singleton.1 ha
        exact mem_arcs.2 ⟨hlt, hF⟩
      · cases ha
  repeat (first | refine awp_seq ?_ | refine awp_region_lit rfl ?_ | refine awp_skip ?_ | refine awp_cond_f rfl (by first | rfl | assumption | exact dF (by omega)) ?_ | ((first | (show AWL _ _ _ (⟨_, .move _, _, _, _, _⟩ :: _) _ _ _; refine awl_pw ?w (pv_move rfl rfl) rfl rfl ?_) | (show AWL _ _ _ (⟨_, .build _ _, _, _, _, _⟩ :: _) _ _ _; refine awl_pw ?w (pv_build T0 rfl rfl rfl (by simp only [Value.cells, List.toList_toArray, List.map_cons, List.map_nil]; rfl) (by first | ((repeat' (first | exact BParts.nil | apply BParts.cons | rfl)); all_goals fail) | fail) (by first | ((repeat' (first | exact FillA.nil | exact Sp.done | apply FillA.cons | apply Sp.put | apply Sp.skip | (simp only [cellsA]; rfl) | rfl)); all_goals fail) | fail)) rfl rfl ?_)); case w => first | exact wt_none rfl | exact wt_some' rfl rfl rfl rfl (by first | rfl | assumption | exact dT (by omega) | exact dF (by omega))))
  refine awl_hw (by first | exact wt_none rfl | exact wt_some' rfl rfl rfl rfl (by first | rfl | assumption | exact dT (by omega) | exact dF (by omega))) (st_alloc T0 rfl rfl rfl rfl (by simp only [Value.cells, List.toList_toArray, List.map_cons, List.map_nil]; rfl) ?_)
  intro g6
  repeat (first | refine awp_seq ?_ | (show AWL _ _ _ (⟨_, .store _ _ _, _, _, _, _⟩ :: _) _ _ _; refine awl_hw (by first | exact wt_none rfl | exact wt_some' rfl rfl rfl rfl (by first | rfl | assumption | exact dT (by omega) | exact dF (by omega))) (st_store T0 rfl rfl rfl rfl rfl (by first | assumption | (simp only [cellsA]; rfl)) rfl rfl rfl (by solve | repeat' constructor) (by solve | repeat' constructor) trivial ?_)) | refine awl_nil ?_)
  refine awp_cut (fun s h => (∃ o1, C ((arcsL F (k + 1)).map (arcRow b)) o1 ∧ s = (57, boolA false) :: arS l gb (.t (consT cp b.cons)) (intA b.cons.length) k ∧ h = .ob o1 :: hcA gb gw gm b cp F) ∨ ((∃ L, PreA b F L ∧ X L h) ∧ s = [(57, boolA true)])) ?_ ?_
  · have e1 : arcsL F (k + 1) = (arcsL F k ++ if 0 < F (k, false) then [(k, false)] else []) ++ if 0 < F (k, true) then [(k, true)] else [] := rfl
    by_cases hF : 0 < F (k, true)
    · refine awp_mono (awp_weak (by first | ((repeat' (first | exact True.intro | refine ⟨rfl, ?_⟩)); all_goals fail) | fail) (by solve | repeat' constructor) (ar_6y (b := b) (k := k) (g4 := g4) (g6 := g6) (gb := gb) (gw := gw) (gm := gm) (l := l) (cp := cp) (u11 := .t (consT cp b.cons)) (u12 := intA b.cons.length) (F := F) (o := o1) (c := b.cons.getD k default) rfl (decide_eq_true hF) (by rw [← hr2]; exact hya (k, true) o1 rfl hF _ hsub1 hC1) rfl)) (fun e s h hh => cutQ_mono (fun s h hm => ?_) hh)
      rw [e1, if_pos hF]
      exact hm
    · refine awp_mono (awp_weak (by first | ((repeat' (first | exact True.intro | refine ⟨rfl, ?_⟩)); all_goals fail) | fail) (by solve | repeat' constructor) (ar_6n (b := b) (k := k) (g4 := g4) (g6 := g6) (gb := gb) (gw := gw) (gm := gm) (l := l) (cp := cp) (u11 := .t (consT cp b.cons)) (u12 := intA b.cons.length) (F := F) (o := o1) (c := b.cons.getD k default) rfl (decide_eq_false hF) rfl)) (fun e s h hh => cutQ_mono (fun s h hm => ?_) hh)
      rw [e1, if_neg hF, List.append_nil]
      exact .inl ⟨o1, hC1, hm⟩
  rintro s h (⟨o2, hC2, rfl, rfl⟩ | ⟨hX, rfl⟩)
  case inr =>
    repeat (first | refine awp_ret ?_ | refine then_r ?_ | refine blk_r ?_ | refine rnd_r ?_ | refine awp_cond_t rfl (by first | rfl | assumption | exact dT (by omega)) ?_)
    exact body_r .nil (SubH.refl _) (.inr hX)
  repeat (first | refine awp_region_lit rfl ?_ | refine awp_skip ?_ | refine awp_cond_f rfl (by first | rfl | assumption | exact dF (by omega)) ?_ | ((first | (show AWL _ _ _ (⟨_, .move _, _, _, _, _⟩ :: _) _ _ _; refine awl_pw ?w (pv_move rfl rfl) rfl rfl ?_) | (show AWL _ _ _ (⟨_, .binOp .add _ _ _ _, _, _, _, _⟩ :: _) _ _ _; refine awl_pw ?w (pv_add rfl rfl rfl (by first | assumption | exact wr64 (by omega))) rfl rfl ?_)); case w => first | exact wt_none rfl | exact wt_some' rfl rfl rfl rfl (by first | rfl | assumption | exact dT (by omega) | exact dF (by omega))) | refine awl_nil ?_)
  refine rnd_n _ _ _ ?_ ⟨k + 1, o2, hlt, rfl, hC2, rfl, rfl⟩ (by first | ((repeat' (first | exact True.intro | refine ⟨rfl, ?_⟩)); all_goals fail) | fail) (by solve | repeat' constructor)
  omega
end Go.Proofs.Ytilhflfbbfeakaa
end
section
namespace Go.Proofs.Ytilhflfbbfeakaa
open Go Go.RowKit Go.Tl
set_option linter.unusedVariables false
set_option linter.unusedSimpArgs false
set_option maxRecDepth 100000
set_option maxHeartbeats 4000000
attribute [local irreducible] AWP AWL AOp PV LV AWT AWE
theorem arcRow_inj {b : BookD} {a a' : Arc} (h : arcRow b a = arcRow b a') : a = a' := by
  obtain ⟨i, t⟩ := a
  obtain ⟨j, u⟩ := a'
  unfold arcRow at h
  simp only [List.cons.injEq, AV.ag.injEq, AV.v.injEq, Value.int.injEq, Value.bool.injEq, Int.ofNat_inj] at h
  obtain ⟨⟨⟨-, h1⟩, h2, -⟩, -⟩ := h
  rw [h1, h2]
theorem arcRows_inj {b : BookD} : ∀ {l l' : List Arc}, l.map (arcRow b) = l'.map (arcRow b) → l = l'
  | [], [], _ => rfl
  | [], _ :: _, h => by cases h
  | _ :: _, [], h => by cases h
  | a :: l, a' :: l', h => by
    simp only [List.map_cons, List.cons.injEq] at h
    rw [arcRow_inj h.1, arcRows_inj h.2]
theorem pre_arc {b : BookD} {F : Arc → Int} {pre : List (List AV)} {y : List AV} (h : PreA b F (pre ++ [y])) : ∃ a, a ∈ arcsL F b.cons.length ∧ y = arcRow b a := by
  obtain ⟨l, e, hl⟩ := h
  have hm : y ∈ l.map (arcRow b) := by rw [← e]; simp
  obtain ⟨a, ha, rfl⟩ := List.mem_map.1 hm
  exact ⟨a, hl a ha, rfl⟩
theorem arc_ends {b : BookD} {F : Arc → Int} (hv : VBook b) {a : Arc} (ha : a ∈ arcsL F b.cons.length) : aF b a < b.houses.toNat ∧ aT b a < b.houses.toNat := by
  have hi := (mem_arcs.1 ha).1
  have hf := hv.frm a.1 hi
  have ht := hv.to a.1 hi
  unfold aF aT
  cases a.2
  · exact ⟨show (b.cons.getD a.1 default).frm.toNat < _ by omega, show (b.cons.getD a.1 default).to.toNat < _ by omega⟩
  · exact ⟨show (b.cons.getD a.1 default).to.toNat < _ by omega, show (b.cons.getD a.1 default).frm.toNat < _ by omega⟩
section
variable {ro : Option Nat} {g4 g5 g7 g8 g9 gy k f t : Nat} {c : Int} {d out out' : Nat → Int} {bb bb' : Nat → Arc} {a : Arc} {rest : List Ent} {u0 : AV} {n : Int}
end
end Go.Proofs.Ytilhflfbbfeakaa
end
