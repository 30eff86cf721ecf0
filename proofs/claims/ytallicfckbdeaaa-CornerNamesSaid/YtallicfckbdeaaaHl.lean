/- The walk of Settle (Try.func41). -/
import Derived.Test.YtallicfckbdeaaaGHj
namespace Go.Proofs.Ytallicfckbdeaaa
open Go Go.RowKit Go.Tl
set_option linter.unusedVariables false
set_option linter.unusedSimpArgs false
set_option maxRecDepth 100000
set_option maxHeartbeats 4000000
attribute [local irreducible] AWP AWL AOp PV LV AWT AWE
theorem preC_y {m : MktD} {pre : List (List AV)} {y : List AV} (h : PreC m (pre ++ [y])) : pre.length < (cheapL m).length ∧ y = intRow (((cheapL m).getD pre.length 0 : Nat) : Int) := by
  obtain ⟨k, hk, e⟩ := h
  have hl := congrArg List.length e
  rw [List.length_append, List.length_singleton, List.length_map, List.length_take, natsI_len] at hl
  have hlt : pre.length < (cheapL m).length := by omega
  refine ⟨hlt, ?_⟩
  have h2 := congrArg (fun l => l[pre.length]?) e
  simp only [List.getElem?_append_right (Nat.le_refl _), Nat.sub_self, List.getElem?_cons_zero, List.getElem?_map, List.getElem?_take] at h2
  rw [if_pos (by omega)] at h2
  unfold natsI at h2
  rw [List.getElem?_map, List.getElem?_eq_getElem hlt] at h2
  simp only [Option.map_some, Option.some.injEq] at h2
  rw [h2, List.getD_eq_getElem?_getD, List.getElem?_eq_getElem hlt]
  rfl
/-- the memory of Settle's rounds -/
abbrev seH (g2 g4 g5 g7 g8 gn gs c1 c2 : Nat) (cp cc : Bool) (m : MktD) (a : Option Addr) (c : Nat) (st : SetD) : List Ent :=
  [mkE g2 cp cc m, .cl g4 65 [.v (.slice a st.sales.length c)], .rw (.slice a st.sales.length c) 71 3 (st.sales.map salcRow), .cl g5 3 [intA st.cost], .cl g7 26 [.v (.slice (some ⟨gn, 0, none⟩) m.hou.length c1)], .rw (.slice (some ⟨gn, 0, none⟩) m.hou.length c1) 3 1 (fRows st.nd m.hou.length), .cl g8 26 [.v (.slice (some ⟨gs, 0, none⟩) m.hou.length c2)], .rw (.slice (some ⟨gs, 0, none⟩) m.hou.length c2) 3 1 (fRows st.sp m.hou.length)]
def seI (g2 g4 g5 g7 g8 gn gs c1 c2 : Nat) (cp cc : Bool) (m : MktD) (t : List Int) (pre : List (List AV)) (h : List Ent) : Prop := ∃ (a : Option Addr) (c : Nat), h = seH g2 g4 g5 g7 g8 gn gs c1 c2 cp cc m a c (outerS m t ((cheapL m).take pre.length))
/-- what Settle returns -/
def setlR (m : MktD) (t : List Int) : List SalC × Int × Int := if (needsR m t).2.2 ≠ 0 then ([], 0, (needsR m t).2.2) else if 0 < mxL ((List.range m.hou.length).map (outerS m t (cheapL m)).nd) (m.hou.length - 1) then ([], 0, 10) else ((outerS m t (cheapL m)).sales, (outerS m t (cheapL m)).cost, 0)
theorem needs_ok {m : MktD} {t : List Int} (h : (needsR m t).2.2 = 0) : faultN m = 0 ∧ truthB m t = true := by
  unfold needsR at h
  split at h
  · rename_i hf; exact absurd h hf
  · rename_i hf
    split at h
    · rename_i ht; exact ⟨by omega, ht⟩
    · cases h
theorem Settle_p (cp cc ct : Bool) (m : MktD) (t : List Int) (hl : m.hou.length ≤ 1000) (hc : m.con.length ≤ 1000) (ht : t.length ≤ 1000) : PCall Try.prog 41 [mktA cp cc m, .t (intsT ct t)] (fun r => r = .tup [.t (salcT true (setlR m t).1), intA (setlR m t).2.1, intA (setlR m t).2.2]) := by
  refine acall_of_awp T0 Try.func41 rfl rfl rfl ?_
  unfold setlR
  by_cases h0 : (needsR m t).2.2 = 0
  case neg =>
    have d1 := decide_eq_true h0
    rw [if_pos h0]
    repeat (first | refine awp_seq ?_ | refine awp_region_lit rfl ?_)
    refine awl_hw (wt_none rfl) (st_box rfl rfl raA (by first | assumption | (simp only [cellsA]; rfl)) rfl rfl ?_)
    intro g2
    skip
    refine awl_hw (wt_none rfl) (st_alloc T0 rfl rfl rfl rfl scA ?_)
    intro g4
    skip
    refine awl_hw (wt_none rfl) (st_alloc T0 rfl rfl rfl rfl scA ?_)
    intro g5
    repeat (first | refine awp_seq ?_ | refine awp_region_lit rfl ?_ | (show AWL _ _ _ (⟨_, .move _, _, _, _, _⟩ :: _) _ _ _; refine awl_pw (wt_none rfl) (pv_move rfl rfl) rfl rfl ?_) | (show AWL _ _ _ (⟨_, .assign _, _, _, _, _⟩ :: _) _ _ _; refine awl_pw (wt_none rfl) (pv_assign rfl rfl) rfl rfl ?_) | (show AWL _ _ _ (⟨_, .load _ _, _, _, _, _⟩ :: _) _ _ _; refine awl_lw (wt_none rfl) (lv_cla T0 rfl rfl rfl rcA rfl) rfl rfl rfl ?_) | refine awl_nil ?_)
    refine awl_hw (wt_none rfl) (st_call T0 (Needs_p cp cc ct m t hl hc ht) rfl rfl rfl rfl (by first | exact callee_lit | exact callee_v | exact callee_fn | assumption) rcA raA rfl ?_)
    rintro _ rfl
    repeat (first | (show AWL _ _ _ (⟨_, .move _, _, _, _, _⟩ :: _) _ _ _; refine awl_pw (wt_none rfl) (pv_move rfl rfl) rfl rfl ?_) | (show AWL _ _ _ (⟨_, .extract _ _, _, _, _, _⟩ :: _) _ _ _; refine awl_pw (wt_none rfl) (pv_extract rfl rfl rfl) rfl rfl ?_))
    refine awl_hw (wt_none rfl) (st_alloc T0 rfl rfl rfl rfl scA ?_)
    intro g7
    skip
    refine awl_hw (wt_none rfl) (st_alloc T0 rfl rfl rfl rfl scA ?_)
    intro g8
    repeat (first | refine awp_seq ?_ | refine awp_region_lit rfl ?_ | refine awp_ret ?_ | refine then_n ?_ | refine then_r ?_ | refine awp_cond_t rfl (by first | rfl | assumption | exact dT (by omega)) ?_ | (show AWL _ _ _ (⟨_, .move _, _, _, _, _⟩ :: _) _ _ _; refine awl_pw (wt_none rfl) (pv_move rfl rfl) rfl rfl ?_) | (show AWL _ _ _ (⟨_, .assign _, _, _, _, _⟩ :: _) _ _ _; refine awl_pw (wt_none rfl) (pv_assign rfl rfl) rfl rfl ?_) | (show AWL _ _ _ (⟨_, .binOp .neq _ _ _ _, _, _, _, _⟩ :: _) _ _ _; refine awl_pw (wt_none rfl) (pv_neq rfl rfl rfl) rfl rfl ?_) | (show AWL _ _ _ (⟨_, .store _ _ _, _, _, _, _⟩ :: _) _ _ _; refine awl_hw (wt_none rfl) (st_store T0 rfl rfl rfl rfl rfl (by first | assumption | (simp only [cellsA]; rfl)) rfl rfl rfl rcA rcA trivial ?_)) | refine awl_nil ?_)
    refine bodyQ_ghost (ghost_nilrow 71 3) ?_
    refine bodyQ_ghost (ghost_freeze_cell (g := g4) (j := 0) (v := .slice none 0 0) (E := 71) (sz := 3) (n := 0) (rows := []) (fun q => salcL (([] : List SalC).getD q default)) rcA rcA rfl rfl rfl (fun k hk => absurd hk (Nat.not_lt_zero _))) ?_
    refine body_p (res_cell rfl rfl rcA rfl rfl rfl (res_cell rfl rfl rcA rfl rfl rfl (.cons rfl .nil))) ?_
    rfl
  obtain ⟨hf, htr⟩ := needs_ok h0
  have hv := vmkt hf
  have hlen := hv.len
  have hpos := hv.pos
  rw [if_neg (fun h => h h0)]
  repeat (first | refine awp_seq ?_ | refine awp_region_lit rfl ?_)
  refine awl_hw (wt_none rfl) (st_box rfl rfl raA (by first | assumption | (simp only [cellsA]; rfl)) rfl rfl ?_)
  intro g2
  skip
  refine awl_hw (wt_none rfl) (st_alloc T0 rfl rfl rfl rfl scA ?_)
  intro g4
  skip
  refine awl_hw (wt_none rfl) (st_alloc T0 rfl rfl rfl rfl scA ?_)
  intro g5
  repeat (first | refine awp_seq ?_ | refine awp_region_lit rfl ?_ | (show AWL _ _ _ (⟨_, .move _, _, _, _, _⟩ :: _) _ _ _; refine awl_pw (wt_none rfl) (pv_move rfl rfl) rfl rfl ?_) | (show AWL _ _ _ (⟨_, .assign _, _, _, _, _⟩ :: _) _ _ _; refine awl_pw (wt_none rfl) (pv_assign rfl rfl) rfl rfl ?_) | (show AWL _ _ _ (⟨_, .load _ _, _, _, _, _⟩ :: _) _ _ _; refine awl_lw (wt_none rfl) (lv_cla T0 rfl rfl rfl rcA rfl) rfl rfl rfl ?_) | refine awl_nil ?_)
  refine awl_hw (wt_none rfl) (st_acall T0 (Needs_o cp cc ct m t hf hl hc htr) rfl rfl rfl rfl (by first | exact callee_lit | exact callee_v | exact callee_fn | assumption) rcA raA rfl (by first | ((repeat' (first | exact SubH.refl _ | apply SubH.cons | exact Pick.here | apply Pick.there)); all_goals fail) | fail) (fun _ _ => trivial) ?_)
  rintro r h' ⟨a1, c1, a2, c2, rfl, rfl⟩
  simp only [List.cons_append, List.nil_append]
  repeat (first | (show AWL _ _ _ (⟨_, .move _, _, _, _, _⟩ :: _) _ _ _; refine awl_pw (wt_none rfl) (pv_move rfl rfl) rfl rfl ?_) | (show AWL _ _ _ (⟨_, .extract _ _, _, _, _, _⟩ :: _) _ _ _; refine awl_pw (wt_none rfl) (pv_extract rfl rfl rfl) rfl rfl ?_))
  refine awl_hw (wt_none rfl) (st_alloc T0 rfl rfl rfl rfl scA ?_)
  intro g7
  skip
  refine awl_hw (wt_none rfl) (st_alloc T0 rfl rfl rfl rfl scA ?_)
  intro g8
  repeat (first | refine awp_seq ?_ | refine awp_region_lit rfl ?_ | refine awp_skip ?_ | refine then_n ?_ | refine awp_cond_f rfl (by first | rfl | assumption | exact dF (by omega)) ?_ | (show AWL _ _ _ (⟨_, .move _, _, _, _, _⟩ :: _) _ _ _; refine awl_pw (wt_none rfl) (pv_move rfl rfl) rfl rfl ?_) | (show AWL _ _ _ (⟨_, .assign _, _, _, _, _⟩ :: _) _ _ _; refine awl_pw (wt_none rfl) (pv_assign rfl rfl) rfl rfl ?_) | (show AWL _ _ _ (⟨_, .load _ _, _, _, _, _⟩ :: _) _ _ _; refine awl_lw (wt_none rfl) (lv_cla T0 rfl rfl rfl rcA rfl) rfl rfl rfl ?_) | (show AWL _ _ _ (⟨_, .binOp .neq _ _ _ _, _, _, _, _⟩ :: _) _ _ _; refine awl_pw (wt_none rfl) (pv_neq rfl rfl rfl) rfl rfl ?_) | (show AWL _ _ _ (⟨_, .store _ _ _, _, _, _, _⟩ :: _) _ _ _; refine awl_hw (wt_none rfl) (st_store T0 rfl rfl rfl rfl rfl (by first | assumption | (simp only [cellsA]; rfl)) rfl rfl rfl rcA rcA trivial ?_)) | refine awl_nil ?_)
  refine awl_hw (wt_none rfl) (st_acall T0 (cheap_o cp cc m) rfl rfl rfl rfl (by first | exact callee_lit | exact callee_v | exact callee_fn | assumption) rcA raA rfl (by first | ((repeat' (first | exact SubH.refl _ | apply SubH.cons | exact Pick.here | apply Pick.there)); all_goals fail) | fail) (fun _ _ => trivial) ?_)
  rintro r h' ⟨g', rfl, rfl⟩
  simp only [List.cons_append, List.nil_append]
  repeat (first | refine awp_block ?_ | refine awl_nil ?_)
  have l1 : ((needL m t m.hou.length).map intRow).length = m.hou.length := by rw [List.length_map, needL_len]
  have l2 : ((spareL m t m.hou.length).map intRow).length = m.hou.length := by rw [List.length_map, spareL_len]
  refine awp_open (v := .slice a1 m.hou.length c1) (E := 3) (sz := 1) (rows := (needL m t m.hou.length).map intRow) rcA fun ad cap he hg => ?_
  obtain ⟨gn, rfl⟩ := hg (by omega)
  rw [l1] at he
  cases he
  refine awp_open (v := .slice a2 m.hou.length c2) (E := 3) (sz := 1) (rows := (spareL m t m.hou.length).map intRow) rcA fun ad cap he hg => ?_
  obtain ⟨gs, rfl⟩ := hg (by omega)
  rw [l2] at he
  cases he
  rw [needL_rows, spareL_rows]
  refine awp_ghost (ghost_nilrow 71 3) ?_
  have hcl : ∀ f ∈ cheapL m, f < m.hou.length := fun f hf => (cheap_mem hv).1 hf
  refine awp_weak (s' := [(2, .v (ptrV g2)), (4, .v (ptrV g4)), (5, .v (ptrV g5)), (7, .v (ptrV g7)), (8, .v (ptrV g8)), (23, .v (.func (.func 94) #[] #[ptrV g']))]) (h' := mkE g' cp cc m :: seH g2 g4 g5 g7 g8 gn gs c1 c2 cp cc m none 0 (startS m t)) ssA rcA ?_
  refine awp_rangeFuncP T0 (Pre := PreC m) (Full := FullC m) (hf := seH g2 g4 g5 g7 g8 gn gs c1 c2 cp cc m none 0 (startS m t))
    (seI g2 g4 g5 g7 g8 gn gs c1 c2 cp cc m t) (fun _ _ _ => False) rfl (callee_v (a := []) (b := [ptrV g'])) rfl (cheap1_p g' cp cc m hv) rcA ?_ ?_ rfl ?_ ?_ ?_ ?_
  · exact ⟨none, 0, rfl⟩
  · intro pre y hp
    rw [(preC_y hp).2]
    rfl
  · rintro l pre y h' hp ⟨a, c, rfl⟩
    obtain ⟨hlt, rfl⟩ := preC_y hp
    have hfl : (cheapL m).getD pre.length 0 < m.hou.length := hcl _ (getD_mem hlt)
    have hst : innerS m (outerS m t ((cheapL m).take pre.length)) ((cheapL m).getD pre.length 0) m.hou.length = outerS m t ((cheapL m).take (pre ++ [intRow (((cheapL m).getD pre.length 0 : Nat) : Int)]).length) := by
      rw [← outer_snoc, List.length_append, List.length_singleton, List.take_add_one, List.getElem?_eq_getElem hlt]
      simp [List.getD_eq_getElem?_getD, List.getElem?_eq_getElem hlt]
    have hok := outer_ok hv htr ((cheapL m).take pre.length) (fun f hf => hcl f (List.mem_of_mem_take hf))
    have hcn : (cheapL m).length ≤ 6 := by
      have hnd : (cheapL m).Nodup := srt_nodup (ord_srt _)
      have := pigeon m.hou.length (cheapL m) hnd hcl
      omega
    have hK : m.hou.length * ((cheapL m).take pre.length).length ≤ 36 := by
      have h1 : ((cheapL m).take pre.length).length ≤ 6 := by rw [List.length_take]; omega
      exact Nat.le_trans (Nat.mul_le_mul hlen h1) (by decide)
    unfold seI
    rw [← hst]
    generalize outerS m t ((cheapL m).take pre.length) = st0 at *
    generalize (cheapL m).getD pre.length 0 = f at *
    generalize m.hou.length * ((cheapL m).take pre.length).length = K at *
    repeat (first | refine awp_region_lit rfl ?_ | (show AWL _ _ _ (⟨_, .assign _, _, _, _, _⟩ :: _) _ _ _; refine awl_pw (wt_none rfl) (pv_assign rfl rfl) rfl rfl ?_) | refine awl_nil ?_)
    refine ⟨rfl, ?_⟩
    repeat (first | refine awp_seq ?_ | refine awp_block ?_ | refine awp_region_lit rfl ?_ | (show AWL _ _ _ (⟨_, .move _, _, _, _, _⟩ :: _) _ _ _; refine awl_pw (wt_none rfl) (pv_move rfl rfl) rfl rfl ?_) | (show AWL _ _ _ (⟨_, .load _ _, _, _, _, _⟩ :: _) _ _ _; refine awl_lw (wt_none rfl) (lv_cl1 T0 rfl rfl rfl rcA raA) rfl rfl rfl ?_) | (show AWL _ _ _ (⟨_, .call ⟨.builtin .len, _, _⟩, _, _, _, _⟩ :: _) _ _ _; refine awl_pw (wt_none rfl) (pv_len_v T0 rfl rfl rfl) rfl rfl ?_) | refine awl_nil ?_)
    refine awp_loop (fun q s h => ∃ (k : Nat) (a : Option Addr) (c : Nat), k ≤ m.hou.length ∧ q = m.hou.length - k ∧ s = [(2, .v (ptrV g2)), (4, .v (ptrV g4)), (5, .v (ptrV g5)), (7, .v (ptrV g7)), (8, .v (ptrV g8)), (9, intA f), (26, intA m.hou.length), (27, intA k)] ∧ h = seH g2 g4 g5 g7 g8 gn gs c1 c2 cp cc m a c (innerS m st0 f k)) ?_ ⟨0, a, c, Nat.zero_le _, rfl, rfl, rfl⟩ ssA rcA
    rintro q s h ⟨k, a, c, hk, rfl, rfl, rfl⟩
    by_cases hkt : k < m.hou.length
    case neg =>
      obtain rfl : k = m.hou.length := by omega
      repeat (first | refine awp_seq ?_ | refine awp_region_lit rfl ?_ | refine awp_exit ?_ | refine then_x ?_ | refine blk_n ?_ | refine blk_x ?_ | refine rnd_x ?_ | refine awp_cond_f rfl (by first | rfl | assumption | exact dF (by omega)) ?_ | (show AWL _ _ _ (⟨_, .binOp .lss _ _ _ _, _, _, _, _⟩ :: _) _ _ _; refine awl_pw (wt_none rfl) (pv_lss rfl rfl rfl) rfl rfl ?_) | refine awl_nil ?_)
      exact ⟨_, rcA, a, c, rfl⟩
    have hsk := inner_ok hv hok hfl k hk
    obtain ⟨st, hste⟩ : ∃ st, innerS m st0 f k = st := ⟨_, rfl⟩
    have hnext : innerS m st0 f (k + 1) = stepS m st f k := by rw [← hste]; rfl
    rw [hste] at hsk ⊢
    have b1 := hsk.nd k hkt
    have b2 := hsk.sp f hfl
    have b3 := hv.ask f hfl
    have b4 := mul_bd (a := min (st.nd k) (st.sp f)) (b := (m.hou.getD f default).ask) (by omega) b3
    have b5 := hsk.cost
    have b6 := hsk.len
    repeat (first | refine awp_seq ?_ | refine awp_block ?_ | refine awp_region_lit rfl ?_ | refine awp_skip ?_ | refine awp_cond_t rfl (by first | rfl | assumption | exact dT (by omega)) ?_ | (show AWL _ _ _ (⟨_, .move _, _, _, _, _⟩ :: _) _ _ _; refine awl_pw (wt_none rfl) (pv_move rfl rfl) rfl rfl ?_) | (show AWL _ _ _ (⟨_, .assign _, _, _, _, _⟩ :: _) _ _ _; refine awl_pw (wt_none rfl) (pv_assign rfl rfl) rfl rfl ?_) | (show AWL _ _ _ (⟨_, .binOp .lss _ _ _ _, _, _, _, _⟩ :: _) _ _ _; refine awl_pw (wt_none rfl) (pv_lss rfl rfl rfl) rfl rfl ?_) | refine awl_nil ?_)
    refine awp_cut _ (awp_weak ssA rcA (hk_9 (g7 := g7) (g8 := g8) (gn := gn) (gs := gs) (c1 := c1) (c2 := c2) (n := m.hou.length) (f := f) (k := k) (nd := st.nd) (sp := st.sp) (u2 := .v (ptrV g2)) (u4 := .v (ptrV g4)) (u5 := .v (ptrV g5)) (u26 := intA m.hou.length) (u27 := intA k) (rest := [mkE g2 cp cc m, .cl g4 65 [.v (.slice a st.sales.length c)], .rw (.slice a st.sales.length c) 71 3 (st.sales.map salcRow), .cl g5 3 [intA st.cost]]) hfl hkt rfl)) ?_
    rintro s h ⟨rfl, rfl⟩
    by_cases e : min (st.nd k) (st.sp f) = 0
    · have d3 := decide_eq_true e
      have hn2 : innerS m st0 f (k + 1) = st := by rw [hnext]; unfold stepS; rw [if_pos e]
      repeat (first | refine awp_seq ?_ | refine awp_region_lit rfl ?_ | refine awp_exit ?_ | refine then_n ?_ | refine awp_cond_t rfl (by first | rfl | assumption | exact dT (by omega)) ?_ | (show AWL _ _ _ (⟨_, .move _, _, _, _, _⟩ :: _) _ _ _; refine awl_pw (wt_none rfl) (pv_move rfl rfl) rfl rfl ?_) | (show AWL _ _ _ (⟨_, .binOp .add _ _ _ _, _, _, _, _⟩ :: _) _ _ _; refine awl_pw (wt_none rfl) (pv_add rfl rfl rfl (by first | assumption | exact wr64 (by omega))) rfl rfl ?_) | (show AWL _ _ _ (⟨_, .binOp .eql _ _ _ _, _, _, _, _⟩ :: _) _ _ _; refine awl_pw (wt_none rfl) (pv_eql rfl rfl rfl) rfl rfl ?_) | refine awl_nil ?_)
      refine rnd_n _ _ _ ?_ ⟨k + 1, a, c, hkt, rfl, rfl, by rw [hn2]⟩ ssA rcA
      omega
    have d3 := decide_eq_false e
    have hn2 : innerS m st0 f (k + 1) = ⟨fun q => if q = k then st.nd k - min (st.nd k) (st.sp f) else st.nd q, fun q => if q = f then st.sp f - min (st.nd k) (st.sp f) else st.sp q, st.sales ++ [⟨f, k, min (st.nd k) (st.sp f)⟩], st.cost + min (st.nd k) (st.sp f) * (m.hou.getD f default).ask⟩ := by rw [hnext]; unfold stepS; rw [if_neg e]
    have hsl : (st.sales.map salcRow).length = st.sales.length := List.length_map _
    have r1 := fRows_at (f := st.nd) hkt
    have r2 := fRows_at (f := st.sp) hfl
    have r3 := fRows_len st.nd m.hou.length
    have r4 := fRows_len st.sp m.hou.length
    generalize hx : min (st.nd k) (st.sp f) = x at *
    repeat (first | refine awp_seq ?_ | refine awp_region_lit rfl ?_ | refine awp_skip ?_ | refine then_n ?_ | refine awp_cond_f rfl (by first | rfl | assumption | exact dF (by omega)) ?_ | (show AWL _ _ _ (⟨_, .move _, _, _, _, _⟩ :: _) _ _ _; refine awl_pw (wt_none rfl) (pv_move rfl rfl) rfl rfl ?_) | (show AWL _ _ _ (⟨_, .load _ _, _, _, _, _⟩ :: _) _ _ _; refine awl_lw (wt_none rfl) (lv_cl1 T0 rfl rfl rfl rcA raA) rfl rfl rfl ?_) | (show AWL _ _ _ (⟨_, .build _ _, _, _, _, _⟩ :: _) _ _ _; refine awl_pw (wt_none rfl) (pv_build T0 rfl rfl rfl scA (by first | ((repeat' (first | exact BParts.nil | apply BParts.cons | rfl)); all_goals fail) | fail) (by first | ((repeat' (first | exact FillA.nil | exact Sp.done | apply FillA.cons | apply Sp.put | apply Sp.skip | (simp only [cellsA]; rfl) | rfl)); all_goals fail) | fail)) rfl rfl ?_) | (show AWL _ _ _ (⟨_, .binOp .eql _ _ _ _, _, _, _, _⟩ :: _) _ _ _; refine awl_pw (wt_none rfl) (pv_eql rfl rfl rfl) rfl rfl ?_) | refine awl_nil ?_)
    refine awl_hw (wt_none rfl) (st_bsl T0 rfl rfl rfl rfl rfl rcA rfl rfl rfl rfl (by simp only [List.map_cons, List.map_nil, cellsA]; rfl) ?_)
    intro g47
    skip
    refine awl_hw (wt_none rfl) (st_app T0 rfl rfl rfl rfl rfl rfl rfl rfl rfl rcA rcA rfl rfl hsl (by omega) (fun _ _ => trivial) ?_)
    intro a48 c48 p48
    repeat (first | refine awp_seq ?_ | (show AWL _ _ _ (⟨_, .store _ _ _, _, _, _, _⟩ :: _) _ _ _; refine awl_hw (wt_none rfl) (st_store T0 rfl rfl rfl rfl rfl (by first | assumption | (simp only [cellsA]; rfl)) rfl rfl rfl rcA rcA trivial ?_)) | refine awl_nil ?_)
    obtain ⟨S, hS⟩ : ∃ S : List SalC, S = st.sales ++ [⟨f, k, x⟩] := ⟨_, rfl⟩
    have e1 : st.sales.length + 1 = S.length := by rw [hS]; simp
    have e2 : st.sales.map salcRow ++ [[AV.v (Value.int IntKind.i64 (f : Int)), AV.v (Value.int IntKind.i64 (k : Int)), AV.v (Value.int IntKind.i64 x)]] = S.map salcRow := by rw [hS]; simp [salcRow]
    rw [← hS] at hn2
    rw [e1, e2]
    refine awp_cut _ (awp_weak ssA rcA (hk_12 (g2 := g2) (g5 := g5) (f := f) (k := k) (x := x) (cost := st.cost) (cp := cp) (cc := cc) (m := m) (u4 := .v (ptrV g4)) (u6 := .v (ptrV g7)) (u25 := .v (ptrV g8)) (u26 := intA m.hou.length) (u27 := intA k) (rest := [.cl g4 65 [.v (.slice a48 S.length c48)], .rw (.slice a48 S.length c48) 71 3 (S.map salcRow), .cl g7 26 [.v (.slice (some ⟨gn, 0, none⟩) m.hou.length c1)], .rw (.slice (some ⟨gn, 0, none⟩) m.hou.length c1) 3 1 (fRows st.nd m.hou.length), .cl g8 26 [.v (.slice (some ⟨gs, 0, none⟩) m.hou.length c2)], .rw (.slice (some ⟨gs, 0, none⟩) m.hou.length c2) 3 1 (fRows st.sp m.hou.length)]) hfl b4 (by omega) rfl)) ?_
    rintro s h ⟨rfl, rfl⟩
    have f1 := fRows_set (f := st.nd) (g := fun q => if q = k then st.nd k - x else st.nd q) (v := st.nd k - x) hkt (fun _ _ => rfl)
    have f2 := fRows_set (f := st.sp) (g := fun q => if q = f then st.sp f - x else st.sp q) (v := st.sp f - x) hfl (fun _ _ => rfl)
    repeat (first | refine awp_seq ?_ | refine awp_region_lit rfl ?_ | (show AWL _ _ _ (⟨_, .move _, _, _, _, _⟩ :: _) _ _ _; refine awl_pw (wt_none rfl) (pv_move rfl rfl) rfl rfl ?_) | (show AWL _ _ _ (⟨_, .load _ _, _, _, _, _⟩ :: _) _ _ _; refine awl_lw (wt_none rfl) (lv_cl1 T0 rfl rfl rfl rcA raA) rfl rfl rfl ?_) | (show AWL _ _ _ (⟨_, .load _ _, _, _, _, _⟩ :: _) _ _ _; refine awl_lw (wt_none rfl) (lv_rp T0 rfl rfl rfl rcA (by first | omega | (simp; omega)) (by omega) (by first | assumption | rfl)) rfl rfl rfl ?_) | (show AWL _ _ _ (⟨_, .indexAddr _ _ _, _, _, _, _⟩ :: _) _ _ _; refine awl_pw (wt_none rfl) (pv_ix_own T0 rfl rfl rfl rfl (by omega) ixA) rfl rfl ?_) | (show AWL _ _ _ (⟨_, .binOp .sub _ _ _ _, _, _, _, _⟩ :: _) _ _ _; refine awl_pw (wt_none rfl) (pv_sub rfl rfl rfl (by first | assumption | exact wr64 (by omega))) rfl rfl ?_))
    refine awl_hw (wt_none rfl) (aop_store_rp T0 rfl rfl rfl rfl rfl rfl rfl rfl rcA (by first | omega | (simp; omega)) (by omega) rfl trivial ?_)
    simp only [cellsA]
    rw [f1]
    repeat (first | refine awp_region_lit rfl ?_ | (show AWL _ _ _ (⟨_, .move _, _, _, _, _⟩ :: _) _ _ _; refine awl_pw (wt_none rfl) (pv_move rfl rfl) rfl rfl ?_) | (show AWL _ _ _ (⟨_, .load _ _, _, _, _, _⟩ :: _) _ _ _; refine awl_lw (wt_none rfl) (lv_cl1 T0 rfl rfl rfl rcA raA) rfl rfl rfl ?_) | (show AWL _ _ _ (⟨_, .load _ _, _, _, _, _⟩ :: _) _ _ _; refine awl_lw (wt_none rfl) (lv_rp T0 rfl rfl rfl rcA (by first | omega | (simp; omega)) (by omega) (by first | assumption | rfl)) rfl rfl rfl ?_) | (show AWL _ _ _ (⟨_, .indexAddr _ _ _, _, _, _, _⟩ :: _) _ _ _; refine awl_pw (wt_none rfl) (pv_ix_own T0 rfl rfl rfl rfl (by omega) ixA) rfl rfl ?_) | (show AWL _ _ _ (⟨_, .binOp .sub _ _ _ _, _, _, _, _⟩ :: _) _ _ _; refine awl_pw (wt_none rfl) (pv_sub rfl rfl rfl (by first | assumption | exact wr64 (by omega))) rfl rfl ?_) | refine awl_nil ?_)
    refine awl_hw (wt_none rfl) (aop_store_rp T0 rfl rfl rfl rfl rfl rfl rfl rfl rcA (by first | omega | (simp; omega)) (by omega) rfl trivial ?_)
    simp only [cellsA]
    rw [f2]
    repeat (first | refine awp_region_lit rfl ?_ | (show AWL _ _ _ (⟨_, .move _, _, _, _, _⟩ :: _) _ _ _; refine awl_pw (wt_none rfl) (pv_move rfl rfl) rfl rfl ?_) | (show AWL _ _ _ (⟨_, .binOp .add _ _ _ _, _, _, _, _⟩ :: _) _ _ _; refine awl_pw (wt_none rfl) (pv_add rfl rfl rfl (by first | assumption | exact wr64 (by omega))) rfl rfl ?_) | refine awl_nil ?_)
    refine rnd_n _ _ _ ?_ ⟨k + 1, a48, c48, hkt, rfl, rfl, by rw [hn2]⟩ ssA rcA
    omega
  · rintro L h' rfl ⟨a, c, rfl⟩
    rw [List.length_map, natsI_len, List.take_length]
    obtain ⟨st, hste⟩ : ∃ st, outerS m t (cheapL m) = st := ⟨_, rfl⟩
    rw [hste]
    have hM := smax_p true ((List.range m.hou.length).map st.nd) (by simp; omega) (by simp; omega)
    have hMl : ((List.range m.hou.length).map st.nd).length = m.hou.length := by simp
    have hM2 := acall_own (v := .slice (some ⟨gn, 0, none⟩) m.hou.length c1) (E := 3) (sz := 1) (rows := fRows st.nd m.hou.length) (f := fun k => [.sc (.int .i64 (((List.range m.hou.length).map st.nd).getD k 0))]) (n := m.hou.length) (by unfold intsT at hM; rw [hMl] at hM; exact hM) (fRows_len _ _) (fRows_tree rfl)
    have hsl : (st.sales.map salcRow).length = st.sales.length := List.length_map _
    by_cases e : 0 < mxL ((List.range m.hou.length).map st.nd) (m.hou.length - 1)
    · have d3 := decide_eq_true e
      rw [if_pos e]
      repeat (first | refine awp_seq ?_ | refine awp_region_lit rfl ?_ | (show AWL _ _ _ (⟨_, .load _ _, _, _, _, _⟩ :: _) _ _ _; refine awl_lw (wt_none rfl) (lv_cl1 T0 rfl rfl rfl rcA raA) rfl rfl rfl ?_))
      refine awl_hw (wt_none rfl) (st_acall T0 (hM2) rfl rfl rfl rfl (by first | exact callee_lit | exact callee_v | exact callee_fn | assumption) rcA raA rfl (by first | ((repeat' (first | exact SubH.refl _ | apply SubH.cons | exact Pick.here | apply Pick.there)); all_goals fail) | fail) (fun _ _ => trivial) ?_)
      rintro r h' ⟨rfl, rfl⟩
      simp only [List.cons_append, List.nil_append]
      repeat (first | refine awp_seq ?_ | refine awp_region_lit rfl ?_ | refine awp_ret ?_ | refine then_n ?_ | refine then_r ?_ | refine awp_cond_t rfl (by first | rfl | assumption | exact dT (by omega)) ?_ | (show AWL _ _ _ (⟨_, .assign _, _, _, _, _⟩ :: _) _ _ _; refine awl_pw (wt_none rfl) (pv_assign rfl rfl) rfl rfl ?_) | (show AWL _ _ _ (⟨_, .binOp .gtr _ _ _ _, _, _, _, _⟩ :: _) _ _ _; refine awl_pw (wt_none rfl) (pv_gtr rfl rfl rfl) rfl rfl ?_) | (show AWL _ _ _ (⟨_, .store _ _ _, _, _, _, _⟩ :: _) _ _ _; refine awl_hw (wt_none rfl) (st_store T0 rfl rfl rfl rfl rfl (by first | assumption | (simp only [cellsA]; rfl)) rfl rfl rfl rcA rcA trivial ?_)) | refine awl_nil ?_)
      refine bodyQ_ghost (ghost_nilrow 71 3) ?_
      refine bodyQ_ghost (ghost_freeze_cell (g := g4) (j := 0) (v := .slice none 0 0) (E := 71) (sz := 3) (n := 0) (rows := []) (fun q => salcL (([] : List SalC).getD q default)) rcA rcA rfl rfl rfl (fun k hk => absurd hk (Nat.not_lt_zero _))) ?_
      refine body_p (res_cell rfl rfl rcA rfl rfl rfl (res_cell rfl rfl rcA rfl rfl rfl (.cons rfl .nil))) ?_
      rfl
    · have d3 := decide_eq_false e
      rw [if_neg e]
      repeat (first | refine awp_seq ?_ | refine awp_region_lit rfl ?_ | (show AWL _ _ _ (⟨_, .load _ _, _, _, _, _⟩ :: _) _ _ _; refine awl_lw (wt_none rfl) (lv_cl1 T0 rfl rfl rfl rcA raA) rfl rfl rfl ?_))
      refine awl_hw (wt_none rfl) (st_acall T0 (hM2) rfl rfl rfl rfl (by first | exact callee_lit | exact callee_v | exact callee_fn | assumption) rcA raA rfl (by first | ((repeat' (first | exact SubH.refl _ | apply SubH.cons | exact Pick.here | apply Pick.there)); all_goals fail) | fail) (fun _ _ => trivial) ?_)
      rintro r h' ⟨rfl, rfl⟩
      simp only [List.cons_append, List.nil_append]
      repeat (first | refine awp_seq ?_ | refine awp_skip ?_ | refine then_n ?_ | refine awp_cond_f rfl (by first | rfl | assumption | exact dF (by omega)) ?_ | (show AWL _ _ _ (⟨_, .binOp .gtr _ _ _ _, _, _, _, _⟩ :: _) _ _ _; refine awl_pw (wt_none rfl) (pv_gtr rfl rfl rfl) rfl rfl ?_) | refine awl_nil ?_)
      refine awp_cut _ (awp_weak ssA rcA (hk_18 (g4 := g4) (g5 := g5) (X := a) (xn := st.sales.length) (xc := c) (cost := st.cost) (rest := [.rw (.slice a st.sales.length c) 71 3 (st.sales.map salcRow)]) rfl)) ?_
      rintro s h ⟨rfl, rfl⟩
      repeat (first | refine awp_ret ?_)
      refine bodyQ_ghost (ghost_freeze_cell (g := g4) (j := 0) (v := .slice a st.sales.length c) (E := 71) (sz := 3) (n := st.sales.length) (rows := st.sales.map salcRow) (fun q => salcL (st.sales.getD q default)) rcA rcA rfl rfl hsl (rows_tree st.sales salcRow salcL (fun _ => rfl))) ?_
      refine body_p (res_cell rfl rfl rcA rfl rfl rfl (res_cell rfl rfl rcA rfl rfl rfl (.cons rfl .nil))) ?_
      rfl
  · rintro L h' _ hX
    exact hX.elim
  · rintro L id h' _ hX
    exact hX.elim
end Go.Proofs.Ytallicfckbdeaaa
