/- Joined texts: Hf, Hg, Ic. -/
import Derived.Test.YtallicfckbdeaaaGHa
import Derived.Test.YtallicfckbdeaaaGHc
section
namespace Go.Proofs.Ytallicfckbdeaaa
open Go Go.RowKit Go.Tl
set_option linter.unusedVariables false
set_option linter.unusedSimpArgs false
set_option maxRecDepth 100000
set_option maxHeartbeats 4000000
def any1 (ex : Int) (h : HouD) : HouD := ⟨0, ex, h.sells, h.ask⟩
def out1 (ex : Int) (hs : List HouD) (i : Int) : List HouD := hs.set i.toNat (any1 ex (hs.getD i.toNat default))
def outL (ex : Int) (hs : List HouD) (l : List Int) : List HouD := l.foldl (out1 ex) hs
abbrev outM (m : MktD) (l : List Int) : MktD := ⟨m.ex, outL m.ex m.hou l, m.con⟩
theorem outL_snoc (ex : Int) (hs : List HouD) (l : List Int) (i : Int) : outL ex hs (l ++ [i]) = out1 ex (outL ex hs l) i := by
  unfold outL
  rw [List.foldl_append]
  rfl
theorem out1_len (ex : Int) (hs : List HouD) (i : Int) : (out1 ex hs i).length = hs.length := List.length_set
theorem out_len (ex : Int) : ∀ (l : List Int) (hs : List HouD), (outL ex hs l).length = hs.length
  | [], hs => rfl
  | i :: l, hs => by
    show (outL ex (out1 ex hs i) l).length = hs.length
    rw [out_len ex l, out1_len]
theorem out1_at {ex : Int} {hs : List HouD} {i : Int} {j : Nat} (hj : j < hs.length) (hi : 0 ≤ i) : (out1 ex hs i).getD j default = if (j : Int) = i then any1 ex (hs.getD j default) else hs.getD j default := by
  unfold out1
  simp only [List.getD_eq_getElem?_getD, List.getElem?_set]
  by_cases h : i.toNat = j
  · subst h
    rw [if_pos rfl, if_pos hj, if_pos (by omega)]
    rfl
  · rw [if_neg h, if_neg (by omega)]
theorem out_at {ex : Int} {j : Nat} : ∀ {l : List Int} {hs : List HouD}, j < hs.length → (∀ x ∈ l, 0 ≤ x) → (outL ex hs l).getD j default = if (j : Int) ∈ l then any1 ex (hs.getD j default) else hs.getD j default
  | [], hs, hj, _ => by simp [outL]
  | i :: l, hs, hj, hl => by
    show (outL ex (out1 ex hs i) l).getD j default = _
    rw [out_at (by rw [out1_len]; exact hj) (fun x hx => hl x (List.mem_cons_of_mem _ hx)), out1_at hj (hl i List.mem_cons_self)]
    by_cases h1 : (j : Int) = i
    · rw [if_pos h1, if_pos (show (j : Int) ∈ i :: l by rw [h1]; exact List.mem_cons_self)]
      split <;> rfl
    · rw [if_neg h1]
      by_cases h2 : (j : Int) ∈ l
      · rw [if_pos h2, if_pos (List.mem_cons_of_mem _ h2)]
      · rw [if_neg h2, if_neg (by simp [h1, h2])]
theorem out_ok {m : MktD} (hv : VMkt m) {l : List Int} (hl : ∀ x ∈ l, 0 ≤ x) : VMkt (outM m l) := by
  have hn : (outL m.ex m.hou l).length = m.hou.length := out_len _ l m.hou
  have hex := hv.ex
  refine ⟨by show 1 ≤ (outL m.ex m.hou l).length; rw [hn]; exact hv.pos, by show (outL m.ex m.hou l).length ≤ 6; rw [hn]; exact hv.len, hv.clen, hv.ex, fun i hi => ?_, fun i hi => ?_, fun k hk => ?_⟩
  · have hi' : i < m.hou.length := by rw [← hn]; exact hi
    show 0 ≤ ((outL m.ex m.hou l).getD i default).lo ∧ ((outL m.ex m.hou l).getD i default).lo ≤ ((outL m.ex m.hou l).getD i default).hi ∧ ((outL m.ex m.hou l).getD i default).hi ≤ 200
    rw [out_at hi' hl]
    split
    · show (0 : Int) ≤ 0 ∧ (0 : Int) ≤ m.ex ∧ m.ex ≤ 200; omega
    · exact hv.held i hi'
  · have hi' : i < m.hou.length := by rw [← hn]; exact hi
    show 0 ≤ ((outL m.ex m.hou l).getD i default).ask ∧ ((outL m.ex m.hou l).getD i default).ask ≤ 1000
    rw [out_at hi' hl]
    split
    · exact hv.ask i hi'
    · exact hv.ask i hi'
  · have := hv.con k hk
    refine ⟨⟨this.1.1, ?_⟩, ⟨this.2.1.1, ?_⟩, this.2.2⟩
    · show _ < (((outL m.ex m.hou l).length : Nat) : Int); rw [hn]; exact this.1.2
    · show _ < (((outL m.ex m.hou l).length : Nat) : Int); rw [hn]; exact this.2.1.2
theorem out_row {ex : Int} {hs : List HouD} {i : Int} (hi : 0 ≤ i ∧ i < hs.length) : (hs.map houRow).set i.toNat (spA ((hs.map houRow).getD i.toNat []) 0 [intA 0, intA ex]) = (out1 ex hs i).map houRow := by
  have h : i.toNat < hs.length := by omega
  have e : (hs.map houRow).getD i.toNat [] = houRow (hs.getD i.toNat default) := by
    simp [List.getD_eq_getElem?_getD, h]
  rw [e]
  unfold out1
  rw [List.map_set]
  rfl
/-- the sums of the ends; whether there is a truth -/
def sLo (hs : List HouD) : Nat → Int
  | 0 => 0
  | k + 1 => sLo hs k + (hs.getD k default).lo
def sHi (hs : List HouD) : Nat → Int
  | 0 => 0
  | k + 1 => sHi hs k + (hs.getD k default).hi
def possB (m : MktD) : Bool := inB m.ex (sLo m.hou m.hou.length) (sHi m.hou m.hou.length)
theorem s_bd {m : MktD} (hv : VMkt m) : ∀ k, k ≤ m.hou.length → (0 ≤ sLo m.hou k ∧ sLo m.hou k ≤ sHi m.hou k) ∧ sHi m.hou k ≤ 200 * (k : Int)
  | 0, _ => by simp [sLo, sHi]
  | k + 1, hk => by
    have ih := s_bd hv k (by omega)
    have h := hv.held k (by omega)
    simp only [sLo, sHi]
    omega
attribute [local irreducible] AWP AWL AOp PV LV AWT AWE
theorem without_p (cp cc cl : Bool) (m : MktD) (l : List Int) (hv : VMkt m) (hll : l.length ≤ 1000) (hl : ∀ x ∈ l, 0 ≤ x ∧ x < m.hou.length) : PCall Try.prog 77 [mktA cp cc m, .t (intsT cl l)] (fun r => r = mktA true cc (outM m l)) := by
  have hlen := hv.len
  have hpos := hv.pos
  refine acall_of_awp T0 Try.func77 rfl rfl rfl ?_
  repeat (first | refine awp_seq ?_ | refine awp_region_lit rfl ?_)
  refine awl_hw (wt_none rfl) (st_box rfl rfl raA (by first | assumption | (simp only [cellsA]; rfl)) rfl rfl ?_)
  intro g2
  skip
  refine awl_hw (wt_none rfl) (st_alloc T0 rfl rfl rfl rfl scA ?_)
  intro g4
  repeat (first | refine awp_seq ?_ | refine awp_region_lit rfl ?_ | (show AWL _ _ _ (⟨_, .load _ _, _, _, _, _⟩ :: _) _ _ _; refine awl_lw (wt_none rfl) (lv_cl1 T0 rfl rfl rfl rcA raA) rfl rfl rfl ?_) | (show AWL _ _ _ (⟨_, .fieldAddr _ _ _, _, _, _, _⟩ :: _) _ _ _; refine awl_pw (wt_none rfl) (pv_fa T0 rfl rfl rfl (by simp; rfl)) rfl rfl ?_) | refine awl_nil ?_)
  refine awl_hw (wt_none rfl) (st_acall T0 (hclone_q cp m.hou (by omega) (by omega)) rfl rfl rfl rfl (by first | exact callee_lit | exact callee_v | exact callee_fn | assumption) rcA raA rfl (by first | ((repeat' (first | exact SubH.refl _ | apply SubH.cons | exact Pick.here | apply Pick.there)); all_goals fail) | fail) (fun _ _ => trivial) ?_)
  rintro r h' ⟨ga, c, rfl, rfl⟩
  simp only [List.cons_append, List.nil_append]
  repeat (first | refine awp_seq ?_ | refine awp_block ?_ | refine awp_region_lit rfl ?_ | (show AWL _ _ _ (⟨_, .move _, _, _, _, _⟩ :: _) _ _ _; refine awl_pw (wt_none rfl) (pv_move rfl rfl) rfl rfl ?_) | (show AWL _ _ _ (⟨_, .fieldAddr _ _ _, _, _, _, _⟩ :: _) _ _ _; refine awl_pw (wt_none rfl) (pv_fa T0 rfl rfl rfl (by simp; rfl)) rfl rfl ?_) | (show AWL _ _ _ (⟨_, .call ⟨.builtin .len, _, _⟩, _, _, _, _⟩ :: _) _ _ _; refine awl_pw (wt_none rfl) (pv_len_t T0 rfl rfl rfl) rfl rfl ?_) | (show AWL _ _ _ (⟨_, .store _ _ _, _, _, _, _⟩ :: _) _ _ _; refine awl_hw (wt_none rfl) (st_store T0 rfl rfl rfl rfl rfl (by first | assumption | (simp only [cellsA]; rfl)) rfl rfl rfl rcA rcA trivial ?_)) | refine awl_nil ?_)
  refine awp_loop (fun q s h => ∃ (k : Nat), k ≤ l.length ∧ q = l.length - k ∧ s = [(2, .v (ptrV g2)), (4, .v (ptrV g4)), (11, .t (intsT cl l)), (12, intA l.length), (13, intA k)] ∧ h = [.cl g2 35 [intA m.ex, .v (.slice (some ⟨ga, 0, none⟩) m.hou.length c), .t (consT cc m.con)], .cl g4 35 [intA 0, .v (.slice none 0 0), .v (.slice none 0 0)], .rw (.slice (some ⟨ga, 0, none⟩) m.hou.length c) 73 4 ((outL m.ex m.hou (l.take k)).map houRow)]) ?_ ⟨0, Nat.zero_le _, rfl, rfl, rfl⟩ ssA rcA
  rintro q s h ⟨k, hk, rfl, rfl, rfl⟩
  have hkl : (outL m.ex m.hou (l.take k)).length = m.hou.length := out_len _ _ _
  by_cases hkt : k < l.length
  case neg =>
    obtain rfl : k = l.length := by omega
    rw [List.take_length] at hkl ⊢
    rw [← hkl]
    refine awp_ghost (ghost_freeze_cell (g := g2) (j := 1) (v := .slice (some ⟨ga, 0, none⟩) (outL m.ex m.hou l).length c) (E := 73) (sz := 4) (n := (outL m.ex m.hou l).length) (rows := (outL m.ex m.hou l).map houRow) (fun q => houL ((outL m.ex m.hou l).getD q default)) rcA rcA rfl rfl (List.length_map _) (rows_tree (outL m.ex m.hou l) houRow houL (fun _ => rfl))) ?_
    repeat (first | refine awp_seq ?_ | refine awp_region_lit rfl ?_ | refine awp_exit ?_ | refine awp_ret ?_ | refine awp_cond_f rfl (by first | rfl | assumption | exact dF (by omega)) ?_ | (show AWL _ _ _ (⟨_, .load _ _, _, _, _, _⟩ :: _) _ _ _; refine awl_lw (wt_none rfl) (lv_cla T0 rfl rfl rfl rcA rfl) rfl rfl rfl ?_) | (show AWL _ _ _ (⟨_, .binOp .lss _ _ _ _, _, _, _, _⟩ :: _) _ _ _; refine awl_pw (wt_none rfl) (pv_lss rfl rfl rfl) rfl rfl ?_) | (show AWL _ _ _ (⟨_, .store _ _ _, _, _, _, _⟩ :: _) _ _ _; refine awl_hw (wt_none rfl) (st_store T0 rfl rfl rfl rfl rfl (by first | assumption | (simp only [cellsA]; rfl)) rfl rfl rfl rcA rcA trivial ?_)) | refine awl_nil ?_)
    refine body_p (res_cell rfl rfl rcA rfl rfl rfl .nil) ?_
    rfl
  have hx := hl _ (getD_mem (d := (0 : Int)) hkt)
  have hs := out_row (ex := m.ex) (hs := outL m.ex m.hou (l.take k)) (i := l.getD k 0) (by rw [hkl]; exact hx)
  rw [← outL_snoc, ← take_snoc hkt] at hs
  have hrl : ((outL m.ex m.hou (l.take k)).map houRow).length = m.hou.length := by rw [List.length_map, hkl]
  repeat (first | refine awp_seq ?_ | refine awp_block ?_ | refine awp_region_lit rfl ?_ | refine awp_skip ?_ | refine awp_cond_t rfl (by first | rfl | assumption | exact dT (by omega)) ?_ | (show AWL _ _ _ (⟨_, .move _, _, _, _, _⟩ :: _) _ _ _; refine awl_pw (wt_none rfl) (pv_move rfl rfl) rfl rfl ?_) | (show AWL _ _ _ (⟨_, .assign _, _, _, _, _⟩ :: _) _ _ _; refine awl_pw (wt_none rfl) (pv_assign rfl rfl) rfl rfl ?_) | (show AWL _ _ _ (⟨_, .load _ _, _, _, _, _⟩ :: _) _ _ _; refine awl_lw (wt_none rfl) (lv_cl1 T0 rfl rfl rfl rcA raA) rfl rfl rfl ?_) | (show AWL _ _ _ (⟨_, .load _ _, _, _, _, _⟩ :: _) _ _ _; refine awl_lw (wt_none rfl) (lv_elt_sc T0 rfl rfl rfl rfl) rfl rfl rfl ?_) | (show AWL _ _ _ (⟨_, .fieldAddr _ _ _, _, _, _, _⟩ :: _) _ _ _; refine awl_pw (wt_none rfl) (pv_fa T0 rfl rfl rfl (by simp; rfl)) rfl rfl ?_) | (show AWL _ _ _ (⟨_, .fieldAddr _ _ _, _, _, _, _⟩ :: _) _ _ _; refine awl_pw (wt_none rfl) (pv_fa_rp T0 rfl rfl rfl (by simp; rfl)) rfl rfl ?_) | (show AWL _ _ _ (⟨_, .indexAddr _ _ _, _, _, _, _⟩ :: _) _ _ _; refine awl_pw (wt_none rfl) (pv_ix_t T0 rfl rfl rfl rfl (by omega) ixA) rfl rfl ?_) | (show AWL _ _ _ (⟨_, .indexAddr _ _ _, _, _, _, _⟩ :: _) _ _ _; refine awl_pw (wt_none rfl) (pv_ix_own T0 rfl rfl rfl rfl (by omega) ixA) rfl rfl ?_) | (show AWL _ _ _ (⟨_, .build _ _, _, _, _, _⟩ :: _) _ _ _; refine awl_pw (wt_none rfl) (pv_build T0 rfl rfl rfl scA (by first | ((repeat' (first | exact BParts.nil | apply BParts.cons | rfl)); all_goals fail) | fail) (by first | ((repeat' (first | exact FillA.nil | exact Sp.done | apply FillA.cons | apply Sp.put | apply Sp.skip | (simp only [cellsA]; rfl) | rfl)); all_goals fail) | fail)) rfl rfl ?_) | (show AWL _ _ _ (⟨_, .binOp .lss _ _ _ _, _, _, _, _⟩ :: _) _ _ _; refine awl_pw (wt_none rfl) (pv_lss rfl rfl rfl) rfl rfl ?_) | refine awl_nil ?_)
  refine awl_hw (wt_none rfl) (aop_store_rp T0 rfl rfl rfl rfl rfl rfl rfl rfl rcA (by show (l.getD k 0).toNat < _; omega) (by omega) hs trivial ?_)
  repeat (first | refine awp_region_lit rfl ?_ | (show AWL _ _ _ (⟨_, .move _, _, _, _, _⟩ :: _) _ _ _; refine awl_pw (wt_none rfl) (pv_move rfl rfl) rfl rfl ?_) | (show AWL _ _ _ (⟨_, .binOp .add _ _ _ _, _, _, _, _⟩ :: _) _ _ _; refine awl_pw (wt_none rfl) (pv_add rfl rfl rfl (by first | assumption | exact wr64 (by omega))) rfl rfl ?_) | refine awl_nil ?_)
  refine rnd_n _ _ _ ?_ ⟨k + 1, hkt, rfl, rfl, rfl⟩ ssA rcA
  omega
theorem possible_p (cp cc : Bool) (m : MktD) (hv : VMkt m) : PCall Try.prog 78 [mktA cp cc m] (fun r => r = boolA (possB m)) := by
  have hlen := hv.len
  refine acall_of_awp T0 Try.func78 rfl rfl rfl ?_
  repeat (first | refine awp_seq ?_ | refine awp_region_lit rfl ?_)
  refine awl_hw (wt_none rfl) (st_box rfl rfl raA (by first | assumption | (simp only [cellsA]; rfl)) rfl rfl ?_)
  intro g1
  repeat (first | refine awp_seq ?_ | refine awp_region_lit rfl ?_ | (show AWL _ _ _ (⟨_, .assign _, _, _, _, _⟩ :: _) _ _ _; refine awl_pw (wt_none rfl) (pv_assign rfl rfl) rfl rfl ?_) | refine awl_nil ?_)
  refine awl_hw (wt_none rfl) (st_alloc T0 rfl rfl rfl rfl scA ?_)
  intro g3
  repeat (first | refine awp_seq ?_ | refine awp_block ?_ | refine awp_region_lit rfl ?_ | (show AWL _ _ _ (⟨_, .move _, _, _, _, _⟩ :: _) _ _ _; refine awl_pw (wt_none rfl) (pv_move rfl rfl) rfl rfl ?_) | (show AWL _ _ _ (⟨_, .load _ _, _, _, _, _⟩ :: _) _ _ _; refine awl_lw (wt_none rfl) (lv_cl1 T0 rfl rfl rfl rcA raA) rfl rfl rfl ?_) | (show AWL _ _ _ (⟨_, .fieldAddr _ _ _, _, _, _, _⟩ :: _) _ _ _; refine awl_pw (wt_none rfl) (pv_fa T0 rfl rfl rfl (by simp; rfl)) rfl rfl ?_) | (show AWL _ _ _ (⟨_, .call ⟨.builtin .len, _, _⟩, _, _, _, _⟩ :: _) _ _ _; refine awl_pw (wt_none rfl) (pv_len_t T0 rfl rfl rfl) rfl rfl ?_) | refine awl_nil ?_)
  refine awp_loop (fun q s h => ∃ (k : Nat), k ≤ m.hou.length ∧ q = m.hou.length - k ∧ s = [(1, .v (ptrV g1)), (3, .v (ptrV g3)), (7, .t (housT cp m.hou)), (8, intA m.hou.length), (9, intA k)] ∧ h = [.cl g1 35 [intA m.ex, .t (housT cp m.hou), .t (consT cc m.con)], .cl g3 46 [intA (sLo m.hou k), intA (sHi m.hou k)]]) ?_ ⟨0, Nat.zero_le _, rfl, rfl, rfl⟩ ssA rcA
  rintro q s h ⟨k, hk, rfl, rfl, rfl⟩
  have hb := s_bd hv k hk
  by_cases hkt : k < m.hou.length
  case neg =>
    obtain rfl : k = m.hou.length := by omega
    have hC := within_q (n := m.ex) (lo := sLo m.hou m.hou.length) (hi := sHi m.hou m.hou.length) rfl
    repeat (first | refine awp_seq ?_ | refine awp_region_lit rfl ?_ | refine awp_exit ?_ | refine awp_cond_f rfl (by first | rfl | assumption | exact dF (by omega)) ?_ | (show AWL _ _ _ (⟨_, .load _ _, _, _, _, _⟩ :: _) _ _ _; refine awl_lw (wt_none rfl) (lv_cl1 T0 rfl rfl rfl rcA raA) rfl rfl rfl ?_) | (show AWL _ _ _ (⟨_, .fieldAddr _ _ _, _, _, _, _⟩ :: _) _ _ _; refine awl_pw (wt_none rfl) (pv_fa T0 rfl rfl rfl (by simp; rfl)) rfl rfl ?_) | (show AWL _ _ _ (⟨_, .binOp .lss _ _ _ _, _, _, _, _⟩ :: _) _ _ _; refine awl_pw (wt_none rfl) (pv_lss rfl rfl rfl) rfl rfl ?_) | refine awl_nil ?_)
    refine awl_hw (wt_none rfl) (st_call T0 (hC) rfl rfl rfl rfl (by first | exact callee_lit | exact callee_v | exact callee_fn | assumption) rcA raA rfl ?_)
    rintro _ rfl
    repeat (first | refine awp_ret ?_ | (show AWL _ _ _ (⟨_, .assign _, _, _, _, _⟩ :: _) _ _ _; refine awl_pw (wt_none rfl) (pv_assign rfl rfl) rfl rfl ?_) | refine awl_nil ?_)
    exact body_p (.cons rfl .nil) rfl
  have hh := hv.held k hkt
  repeat (first | refine awp_seq ?_ | refine awp_block ?_ | refine awp_region_lit rfl ?_ | refine awp_skip ?_ | refine awp_cond_t rfl (by first | rfl | assumption | exact dT (by omega)) ?_ | (show AWL _ _ _ (⟨_, .load _ _, _, _, _, _⟩ :: _) _ _ _; refine awl_lw (wt_none rfl) (lv_elt_ag T0 rfl rfl rfl rfl rcA) rfl rfl rfl ?_) | (show AWL _ _ _ (⟨_, .indexAddr _ _ _, _, _, _, _⟩ :: _) _ _ _; refine awl_pw (wt_none rfl) (pv_ix_t T0 rfl rfl rfl rfl (by omega) ixA) rfl rfl ?_) | (show AWL _ _ _ (⟨_, .binOp .lss _ _ _ _, _, _, _, _⟩ :: _) _ _ _; refine awl_pw (wt_none rfl) (pv_lss rfl rfl rfl) rfl rfl ?_) | refine awl_nil ?_)
  refine awl_hw (wt_none rfl) (st_alloc T0 rfl rfl rfl rfl scA ?_)
  intro g5
  repeat (first | refine awp_region_lit rfl ?_ | (show AWL _ _ _ (⟨_, .move _, _, _, _, _⟩ :: _) _ _ _; refine awl_pw (wt_none rfl) (pv_move rfl rfl) rfl rfl ?_) | (show AWL _ _ _ (⟨_, .load _ _, _, _, _, _⟩ :: _) _ _ _; refine awl_lw (wt_none rfl) (lv_cl1 T0 rfl rfl rfl rcA raA) rfl rfl rfl ?_) | (show AWL _ _ _ (⟨_, .fieldAddr _ _ _, _, _, _, _⟩ :: _) _ _ _; refine awl_pw (wt_none rfl) (pv_fa T0 rfl rfl rfl (by simp; rfl)) rfl rfl ?_) | (show AWL _ _ _ (⟨_, .build _ _, _, _, _, _⟩ :: _) _ _ _; refine awl_pw (wt_none rfl) (pv_build T0 rfl rfl rfl scA (by first | ((repeat' (first | exact BParts.nil | apply BParts.cons | rfl)); all_goals fail) | fail) (by first | ((repeat' (first | exact FillA.nil | exact Sp.done | apply FillA.cons | apply Sp.put | apply Sp.skip | (simp only [cellsA]; rfl) | rfl)); all_goals fail) | fail)) rfl rfl ?_) | (show AWL _ _ _ (⟨_, .binOp .add _ _ _ _, _, _, _, _⟩ :: _) _ _ _; refine awl_pw (wt_none rfl) (pv_add rfl rfl rfl (by first | assumption | exact wr64 (by omega))) rfl rfl ?_) | (show AWL _ _ _ (⟨_, .store _ _ _, _, _, _, _⟩ :: _) _ _ _; refine awl_hw (wt_none rfl) (st_store T0 rfl rfl rfl rfl rfl (by first | assumption | (simp only [cellsA]; rfl)) rfl rfl rfl rcA rcA trivial ?_)) | refine awl_nil ?_)
  refine rnd_n _ _ _ ?_ ⟨k + 1, hkt, rfl, rfl, rfl⟩ ssA rcA
  omega
end Go.Proofs.Ytallicfckbdeaaa
end
section
namespace Go.Proofs.Ytallicfckbdeaaa
open Go Go.RowKit Go.Tl
set_option linter.unusedVariables false
set_option linter.unusedSimpArgs false
set_option maxRecDepth 100000
set_option maxHeartbeats 4000000
/-- whether there is a truth if some houses can hold anything -/
def levB (m : MktD) (o : List Nat) : Bool := possB (outM m (natsI o))
abbrev okA1 : Nat → Bool := fun _ => true
theorem combC_all {ok : Nat → Bool} {n : Nat} (h : ∀ i, ok i = true) : ∀ d i, i + d = n → List.range' i d ∈ combC ok n d i
  | 0, i, _ => by simp [combC]
  | d + 1, i, hd => by
    rw [combC_yes (by omega) (h i), List.range'_succ]
    exact List.mem_append_left _ (List.mem_map.2 ⟨_, combC_all h d (i + 1) (by omega), rfl⟩)
theorem sHi_any {ex : Int} {hs : List HouD} (h : ∀ i, i < hs.length → (hs.getD i default).lo = 0 ∧ (hs.getD i default).hi = ex) : ∀ k, k ≤ hs.length → sLo hs k = 0 ∧ sHi hs k = ex * (k : Int)
  | 0, _ => by simp [sLo, sHi]
  | k + 1, hk => by
    have ih := sHi_any h k (by omega)
    have := h k (by omega)
    simp only [sLo, sHi, ih.1, ih.2, this.1, this.2]
    constructor
    · rfl
    · rw [show ((k + 1 : Nat) : Int) = (k : Int) + 1 from by omega, Int.mul_add, Int.mul_one]
theorem lev_all {m : MktD} (hv : VMkt m) : levB m (List.range' 0 m.hou.length) = true := by
  have hn : (outL m.ex m.hou (natsI (List.range' 0 m.hou.length))).length = m.hou.length := out_len _ _ _
  have hex := hv.ex
  have hpos := hv.pos
  have h := sHi_any (ex := m.ex) (hs := outL m.ex m.hou (natsI (List.range' 0 m.hou.length))) (fun i hi => by
    rw [hn] at hi
    rw [out_at hi (fun x hx => by unfold natsI at hx; obtain ⟨j, _, rfl⟩ := List.mem_map.1 hx; omega), if_pos (by unfold natsI; exact List.mem_map.2 ⟨i, by simp [List.mem_range']; omega, rfl⟩)]
    exact ⟨rfl, rfl⟩) m.hou.length (by omega)
  unfold levB possB
  show inB m.ex (sLo (outL m.ex m.hou (natsI (List.range' 0 m.hou.length))) (outL m.ex m.hou (natsI (List.range' 0 m.hou.length))).length) (sHi (outL m.ex m.hou (natsI (List.range' 0 m.hou.length))) (outL m.ex m.hou (natsI (List.range' 0 m.hou.length))).length) = true
  rw [hn, h.1, h.2]
  refine inB_iff.2 ⟨by omega, ?_⟩
  have := Int.mul_le_mul_of_nonneg_left (a := 1) (b := (m.hou.length : Int)) (c := m.ex) (by omega) (by omega)
  omega
theorem fnd_isSome {B : List Nat → Bool} {cs : List (List Nat)} {e : List Nat} (h : e ∈ cs) (hb : B e = true) : (fndL B [] cs).isSome = true := by
  unfold fndL
  rw [Option.isSome_map, List.find?_isSome]
  exact ⟨e, h, by simpa using hb⟩
theorem lev_some {m : MktD} (hv : VMkt m) : (fndL (levB m) [] (sizesC okA1 m.hou.length 0)).isSome = true := by
  refine fnd_isSome (e := List.range' 0 m.hou.length) ?_ (lev_all hv)
  unfold sizesC
  exact List.mem_flatMap.2 ⟨m.hou.length, by simp [List.mem_range'], combC_all (fun _ => rfl) m.hou.length 0 (by omega)⟩
attribute [local irreducible] AWP AWL AOp PV LV AWT AWE
/-- the memory of the search -/
abbrev lvE (g1 g6 g7 : Nat) (cp cc : Bool) (m : MktD) (X : AV) : List Ent :=
  [.cl g1 35 [intA m.ex, .t (housT cp m.hou), .t (consT cc m.con)], .cl g6 26 [X], .cl g7 120 [.v (.func (.func 76) #[] #[ptrV g6, ptrV g1, ptrV g7])]]
section
variable {g1 g6 g7 i : Nat} {cp cc : Bool} {m : MktD} {o : List Nat} {X : AV} {mi : Int} {b : Bool} {Q : AV → Prop}
theorem hg_7 (hi1 : i ≤ 100) (ho : (natsI o).length ≤ 1000) (hmi : 1 ≤ mi ∧ mi ≤ 100)
    (hC : ACall Try.prog 76 [.t (intsT true (natsI (o ++ [i]))), intA ((i : Int) + 1), intA (mi - 1), .v (ptrV g6), .v (ptrV g1), .v (ptrV g7)] (lvE g1 g6 g7 cp cc m X) (fun r h' => r = boolA b ∧ ∃ X', Q X' ∧ h' = lvE g1 g6 g7 cp cc m X'))
    {ops : Array Oper} (h : regF Try.f76 7 = some ops) :
    AWP Try.prog Try.f76.ntmps none (.region 7 ops true) (cutQ (fun s h => ∃ X', Q X' ∧ s = [(36, boolA b), (0, .t (intsT true (natsI o))), (2, intA mi), (3, .v (ptrV g6)), (4, .v (ptrV g1)), (5, .v (ptrV g7)), (10, intA i)] ∧ h = lvE g1 g6 g7 cp cc m X'))
      [(0, .t (intsT true (natsI o))), (2, intA mi), (3, .v (ptrV g6)), (4, .v (ptrV g1)), (5, .v (ptrV g7)), (10, intA i)] (lvE g1 g6 g7 cp cc m X) := by
  cases h
  have hn : ((natsI o).map intRow).length = (natsI o).length := List.length_map _
  have hl1 : (natsI (o ++ [i])).length = (natsI o).length + 1 := by simp [natsI]
  have hro : (natsI o).map intRow ++ [[intA (i : Int)]] = (natsI (o ++ [i])).map intRow := by simp [natsI, intRow]
  have ht := intRows_tree (natsI (o ++ [i]))
  rw [hl1] at ht
  have hC2 := fun v => acall_ownG (v := v) (E := 3) (sz := 1) (rows := (natsI (o ++ [i])).map intRow) (f := fun k => [.sc (.int .i64 ((natsI (o ++ [i])).getD k 0))]) (n := (natsI o).length + 1) (by unfold intsT at hC; rw [hl1] at hC; exact hC) (by rw [List.length_map, hl1]) ht
  rw [← hro] at hC2
  refine awp_tree T0 [(0, 1), (1, 0), (3, 0), (6, 0), (7, 0), (8, 0), (9, 0), (2, 2), (4, 2), (5, 2), (10, 3)] (.op 0 1 (.op 1 0 (.op 3 0 (.op 6 0 (.op 7 0 (.op 8 0 (.op 9 0 (.fork 2 (.op 4 2 (.op 5 2 (.op 10 3 .stop))) 4 (.op 2 2 (.op 5 2 (.op 10 3 .stop))))))))))) [.cl g1 _ _, .cl g7 _ _] rfl (by kernel_rfl) rcA ?_
  refine awt_lo rfl (wt_none rfl) (lv_cl1 T0 rfl rfl rfl rcA raA) rfl rfl rfl ?_
  refine awt_po rfl (wt_none rfl) (pv_move rfl rfl) rfl rfl ?_
  refine awt_po rfl (wt_none rfl) (pv_move rfl rfl) rfl rfl ?_
  refine awt_po rfl (wt_none rfl) (pv_move rfl rfl) rfl rfl ?_
  refine awt_po rfl (wt_none rfl) (pv_add rfl rfl rfl (by first | assumption | exact wr64 (by omega))) rfl rfl ?_
  refine awt_po rfl (wt_none rfl) (pv_move rfl rfl) rfl rfl ?_
  refine awt_po rfl (wt_none rfl) (pv_sub rfl rfl rfl (by first | assumption | exact wr64 (by omega))) rfl rfl ?_
  refine awt_fork ?_ ?_
  · skip
    refine awt_h (hm := _) rfl (wt_none rfl) ?sub rfl (st_acall T0 (iclone_o true (natsI o) ho) rfl rfl rfl rfl (by first | exact callee_lit | exact callee_v | exact callee_fn | assumption) rcA raA rfl (by first | ((repeat' (first | exact SubH.refl _ | apply SubH.cons | exact Pick.here | apply Pick.there)); all_goals fail) | fail) (fun b hb => hb) ?_)
    case sub => exact rcA
    rintro r h' ⟨a, c, rfl, rfl⟩
    refine awt_h (hm := []) rfl (wt_none rfl) rcA rfl (st_bsl T0 rfl rfl rfl rfl rfl rcA rfl rfl rfl rfl (by simp only [List.map_cons, List.map_nil, cellsA]; rfl) ?_)
    intro g30
    refine awt_h (hm := _) rfl (wt_none rfl) ?sub rfl (st_app_o T0 rfl rfl rfl rfl rfl rfl rfl rfl rfl rcA rcA rfl rfl hn (by omega) ?_)
    case sub => exact rcA
    intro a31 c31 p31
    refine awt_s (md := fun _ => True) rfl (wt_none rfl) (st_acall T0 (hC2 _) rfl rfl rfl rfl (by first | exact callee_lit | exact callee_v | exact callee_fn | assumption) rcA raA rfl (by first | ((repeat' (first | exact SubH.refl _ | apply SubH.cons | exact Pick.here | apply Pick.there)); all_goals fail) | fail) (fun _ _ => trivial) ?_)
    rintro r h' ⟨rfl, X', hX, rfl⟩
    refine awe_end ?_
    exact cut_n ⟨X', hX, rfl, rfl⟩ ssA rcA
  · skip
    refine awt_h (hm := []) rfl (wt_none rfl) rcA rfl (st_bsl T0 rfl rfl rfl rfl rfl rcA rfl rfl rfl rfl (by simp only [List.map_cons, List.map_nil, cellsA]; rfl) ?_)
    intro g30
    refine awt_h (hm := _) rfl (wt_none rfl) ?sub rfl (st_acall T0 (iclone_o true (natsI o) ho) rfl rfl rfl rfl (by first | exact callee_lit | exact callee_v | exact callee_fn | assumption) rcA raA rfl (by first | ((repeat' (first | exact SubH.refl _ | apply SubH.cons | exact Pick.here | apply Pick.there)); all_goals fail) | fail) (fun b hb => hb) ?_)
    case sub => exact rcA
    rintro r h' ⟨a, c, rfl, rfl⟩
    refine awt_h (hm := _) rfl (wt_none rfl) ?sub rfl (st_app_o T0 rfl rfl rfl rfl rfl rfl rfl rfl rfl rcA rcA rfl rfl hn (by omega) ?_)
    case sub => exact rcA
    intro a31 c31 p31
    refine awt_s (md := fun _ => True) rfl (wt_none rfl) (st_acall T0 (hC2 _) rfl rfl rfl rfl (by first | exact callee_lit | exact callee_v | exact callee_fn | assumption) rcA raA rfl (by first | ((repeat' (first | exact SubH.refl _ | apply SubH.cons | exact Pick.here | apply Pick.there)); all_goals fail) | fail) (fun _ _ => trivial) ?_)
    rintro r h' ⟨rfl, X', hX, rfl⟩
    refine awe_end ?_
    exact cut_n ⟨X', hX, rfl, rfl⟩ ssA rcA
end
theorem lev_p (g1 g6 g7 : Nat) (cp cc : Bool) (m : MktD) (hv : VMkt m) : ∀ (n i : Nat) (o : List Nat) (X : AV), o.length + n ≤ 100 → i ≤ 50 → (∀ x ∈ o, x < m.hou.length) →
    ACall Try.prog 76 [.t (intsT true (natsI o)), intA i, intA n, .v (ptrV g6), .v (ptrV g1), .v (ptrV g7)] (lvE g1 g6 g7 cp cc m X)
      (fun r h' => r = boolA (fndL (levB m) o (combC okA1 m.hou.length n i)).isSome ∧ ∃ X', (∀ e, fndL (levB m) o (combC okA1 m.hou.length n i) = some e → X' = .t (intsT true (natsI e))) ∧ h' = lvE g1 g6 g7 cp cc m X') := by
  have hlen := hv.len
  intro n
  induction n with
  | zero =>
    intro i o X ho hi hox
    rw [show combC okA1 m.hou.length 0 i = [[]] from rfl, fnd_one]
    have hC := without_p cp cc true m (natsI o) hv (by rw [natsI_len]; omega) (fun x hx => by obtain ⟨j, hj, rfl⟩ := natsI_mem hx; have := hox j hj; omega)
    have hP := possible_p true cc (outM m (natsI o)) (out_ok hv (fun x hx => by obtain ⟨j, hj, rfl⟩ := natsI_mem hx; omega))
    have hB : levB m o = possB (outM m (natsI o)) := rfl
    refine acall_of_awp T0 Try.func76 rfl rfl rfl ?_
    repeat (first | refine awp_seq ?_ | refine awp_region_lit rfl ?_ | refine then_n ?_ | refine awp_cond_t rfl (by first | rfl | assumption | exact dT (by omega)) ?_ | (show AWL _ _ _ (⟨_, .move _, _, _, _, _⟩ :: _) _ _ _; refine awl_pw (wt_none rfl) (pv_move rfl rfl) rfl rfl ?_) | (show AWL _ _ _ (⟨_, .assign _, _, _, _, _⟩ :: _) _ _ _; refine awl_pw (wt_none rfl) (pv_assign rfl rfl) rfl rfl ?_) | (show AWL _ _ _ (⟨_, .load _ _, _, _, _, _⟩ :: _) _ _ _; refine awl_lw (wt_none rfl) (lv_cla T0 rfl rfl rfl rcA rfl) rfl rfl rfl ?_) | (show AWL _ _ _ (⟨_, .binOp .eql _ _ _ _, _, _, _, _⟩ :: _) _ _ _; refine awl_pw (wt_none rfl) (pv_eql rfl rfl rfl) rfl rfl ?_) | (show AWL _ _ _ (⟨_, .store _ _ _, _, _, _, _⟩ :: _) _ _ _; refine awl_hw (wt_none rfl) (st_store T0 rfl rfl rfl rfl rfl (by first | assumption | (simp only [cellsA]; rfl)) rfl rfl rfl rcA rcA trivial ?_)) | refine awl_nil ?_)
    refine awl_hw (wt_none rfl) (st_call T0 (hC) rfl rfl rfl rfl (by first | exact callee_lit | exact callee_v | exact callee_fn | assumption) rcA raA rfl ?_)
    rintro _ rfl
    skip
    refine awl_hw (wt_none rfl) (st_call T0 (hP) rfl rfl rfl rfl (by first | exact callee_lit | exact callee_v | exact callee_fn | assumption) rcA raA rfl ?_)
    rintro _ rfl
    repeat (first | refine awp_ret ?_ | refine then_r ?_ | (show AWL _ _ _ (⟨_, .assign _, _, _, _, _⟩ :: _) _ _ _; refine awl_pw (wt_none rfl) (pv_assign rfl rfl) rfl rfl ?_) | refine awl_nil ?_)
    refine body_r (h' := lvE g1 g6 g7 cp cc m (.t (intsT true (natsI o)))) (.cons rfl .nil) rcA ⟨?_, _, fun e he => ?_, rfl⟩
    · rw [← hB]
      cases levB m o
      · rfl
      · rfl
    · cases c : levB m o
      · rw [c] at he; cases he
      · rw [c, if_pos rfl] at he; cases he; rfl
  | succ n ih =>
    intro i0 o X0 ho hi0 hox
    refine acall_of_awp T0 Try.func76 rfl rfl rfl ?_
    have dn : decide (((n + 1 : Nat) : Int) = 0) = false := decide_eq_false (by omega)
    repeat (first | refine awp_seq ?_ | refine awp_block ?_ | refine awp_region_lit rfl ?_ | refine awp_skip ?_ | refine then_n ?_ | refine awp_cond_f rfl (by first | rfl | assumption | exact dF (by omega)) ?_ | (show AWL _ _ _ (⟨_, .move _, _, _, _, _⟩ :: _) _ _ _; refine awl_pw (wt_none rfl) (pv_move rfl rfl) rfl rfl ?_) | (show AWL _ _ _ (⟨_, .assign _, _, _, _, _⟩ :: _) _ _ _; refine awl_pw (wt_none rfl) (pv_assign rfl rfl) rfl rfl ?_) | (show AWL _ _ _ (⟨_, .binOp .eql _ _ _ _, _, _, _, _⟩ :: _) _ _ _; refine awl_pw (wt_none rfl) (pv_eql rfl rfl rfl) rfl rfl ?_) | refine awl_nil ?_)
    refine awp_loop (fun w s h => ∃ (i : Nat) (X : AV), i0 ≤ i ∧ i ≤ 60 ∧ w = 60 - i ∧ fndL (levB m) o (combC okA1 m.hou.length (n + 1) i0) = fndL (levB m) o (combC okA1 m.hou.length (n + 1) i) ∧ s = [(0, .t (intsT true (natsI o))), (2, intA ((n + 1 : Nat) : Int)), (3, .v (ptrV g6)), (4, .v (ptrV g1)), (5, .v (ptrV g7)), (10, intA i)] ∧ h = lvE g1 g6 g7 cp cc m X) ?_ ⟨i0, X0, Nat.le_refl _, by omega, rfl, rfl, rfl, rfl⟩ ssA rcA
    rintro w s h ⟨i, X, hi, hi2, rfl, hR, rfl, rfl⟩
    by_cases hlt : i < m.hou.length
    case neg =>
      have d1 : decide ((i : Int) < m.hou.length) = false := decide_eq_false (by omega)
      rw [combC_end (i := i) (by omega), fnd_nil] at hR
      rw [hR]
      repeat (first | refine awp_seq ?_ | refine awp_region_lit rfl ?_ | refine awp_exit ?_ | refine awp_ret ?_ | refine then_n ?_ | refine awp_cond_f rfl (by first | rfl | assumption | exact dF (by omega)) ?_ | (show AWL _ _ _ (⟨_, .move _, _, _, _, _⟩ :: _) _ _ _; refine awl_pw (wt_none rfl) (pv_move rfl rfl) rfl rfl ?_) | (show AWL _ _ _ (⟨_, .assign _, _, _, _, _⟩ :: _) _ _ _; refine awl_pw (wt_none rfl) (pv_assign rfl rfl) rfl rfl ?_) | (show AWL _ _ _ (⟨_, .load _ _, _, _, _, _⟩ :: _) _ _ _; refine awl_lw (wt_none rfl) (lv_cl1 T0 rfl rfl rfl rcA raA) rfl rfl rfl ?_) | (show AWL _ _ _ (⟨_, .fieldAddr _ _ _, _, _, _, _⟩ :: _) _ _ _; refine awl_pw (wt_none rfl) (pv_fa T0 rfl rfl rfl (by simp; rfl)) rfl rfl ?_) | (show AWL _ _ _ (⟨_, .binOp .lss _ _ _ _, _, _, _, _⟩ :: _) _ _ _; refine awl_pw (wt_none rfl) (pv_lss rfl rfl rfl) rfl rfl ?_) | (show AWL _ _ _ (⟨_, .call ⟨.builtin .len, _, _⟩, _, _, _, _⟩ :: _) _ _ _; refine awl_pw (wt_none rfl) (pv_len_t T0 rfl rfl rfl) rfl rfl ?_) | refine awl_nil ?_)
      exact body_r (h' := lvE g1 g6 g7 cp cc m X) (.cons rfl .nil) rcA ⟨rfl, X, (fun e he => by cases he), rfl⟩
    have d1 : decide ((i : Int) < m.hou.length) = true := decide_eq_true (by omega)
    rw [combC_yes hlt rfl, fnd_app, fnd_cons] at hR
    have hC := ih (i + 1) (o ++ [i]) X (by simp; omega) (by omega) (fun x hx => by simp at hx; rcases hx with h | rfl; exact hox x h; exact hlt)
    rw [show intA ((n : Nat) : Int) = intA (((n + 1 : Nat) : Int) - 1) from by rw [show ((n + 1 : Nat) : Int) - 1 = (n : Int) from by omega]] at hC
    have ho1 : (natsI o).length ≤ 1000 := by rw [natsI_len]; omega
    generalize hf : fndL (levB m) (o ++ [i]) (combC okA1 m.hou.length n (i + 1)) = F at *
    repeat (first | refine awp_seq ?_ | refine awp_block ?_ | refine awp_region_lit rfl ?_ | refine awp_skip ?_ | refine then_n ?_ | refine awp_cond_t rfl (by first | rfl | assumption | exact dT (by omega)) ?_ | (show AWL _ _ _ (⟨_, .move _, _, _, _, _⟩ :: _) _ _ _; refine awl_pw (wt_none rfl) (pv_move rfl rfl) rfl rfl ?_) | (show AWL _ _ _ (⟨_, .load _ _, _, _, _, _⟩ :: _) _ _ _; refine awl_lw (wt_none rfl) (lv_cl1 T0 rfl rfl rfl rcA raA) rfl rfl rfl ?_) | (show AWL _ _ _ (⟨_, .fieldAddr _ _ _, _, _, _, _⟩ :: _) _ _ _; refine awl_pw (wt_none rfl) (pv_fa T0 rfl rfl rfl (by simp; rfl)) rfl rfl ?_) | (show AWL _ _ _ (⟨_, .binOp .lss _ _ _ _, _, _, _, _⟩ :: _) _ _ _; refine awl_pw (wt_none rfl) (pv_lss rfl rfl rfl) rfl rfl ?_) | (show AWL _ _ _ (⟨_, .call ⟨.builtin .len, _, _⟩, _, _, _, _⟩ :: _) _ _ _; refine awl_pw (wt_none rfl) (pv_len_t T0 rfl rfl rfl) rfl rfl ?_) | refine awl_nil ?_)
    refine awp_cut _ (awp_weak ssA rcA (hg_7 (g1 := g1) (g6 := g6) (g7 := g7) (i := i) (cp := cp) (cc := cc) (m := m) (o := o) (X := X) (mi := ((n + 1 : Nat) : Int)) (b := F.isSome) (Q := fun X' => ∀ e, F = some e → X' = .t (intsT true (natsI e))) (by omega) ho1 (by omega) hC rfl)) ?_
    rintro s h ⟨X', hX', rfl, rfl⟩
    cases c : F.isSome
    · rw [or_none c] at hR
      repeat (first | refine awp_region_lit rfl ?_ | refine awp_skip ?_ | refine awp_cond_f rfl (by first | rfl | assumption | exact dF (by omega)) ?_ | (show AWL _ _ _ (⟨_, .move _, _, _, _, _⟩ :: _) _ _ _; refine awl_pw (wt_none rfl) (pv_move rfl rfl) rfl rfl ?_) | (show AWL _ _ _ (⟨_, .assign _, _, _, _, _⟩ :: _) _ _ _; refine awl_pw (wt_none rfl) (pv_assign rfl rfl) rfl rfl ?_) | (show AWL _ _ _ (⟨_, .binOp .add _ _ _ _, _, _, _, _⟩ :: _) _ _ _; refine awl_pw (wt_none rfl) (pv_add rfl rfl rfl (by first | assumption | exact wr64 (by omega))) rfl rfl ?_) | refine awl_nil ?_)
      refine rnd_n _ _ _ ?_ ⟨i + 1, X', by omega, by omega, rfl, hR, rfl, rfl⟩ ssA rcA
      omega
    · rw [or_some c] at hR
      rw [hR]
      repeat (first | refine awp_seq ?_ | refine awp_region_lit rfl ?_ | refine awp_ret ?_ | refine then_r ?_ | refine blk_r ?_ | refine rnd_r ?_ | refine awp_cond_t rfl (by first | rfl | assumption | exact dT (by omega)) ?_ | (show AWL _ _ _ (⟨_, .assign _, _, _, _, _⟩ :: _) _ _ _; refine awl_pw (wt_none rfl) (pv_assign rfl rfl) rfl rfl ?_) | refine awl_nil ?_)
      exact body_r (h' := lvE g1 g6 g7 cp cc m X') (.cons rfl .nil) rcA ⟨by rw [c]; rfl, X', hX', rfl⟩
theorem lev_top (g1 g6 g7 : Nat) (cp cc : Bool) (m : MktD) (hv : VMkt m) (n : Nat) (X : AV) (hn : n ≤ 100) :
    ACall Try.prog 76 [.v (.slice none 0 0), intA 0, intA n, .v (ptrV g6), .v (ptrV g1), .v (ptrV g7)] (lvE g1 g6 g7 cp cc m X)
      (fun r h' => r = boolA (fndL (levB m) [] (combC okA1 m.hou.length n 0)).isSome ∧ ∃ X', (∀ e, fndL (levB m) [] (combC okA1 m.hou.length n 0) = some e → X' = .t (intsT true (natsI e))) ∧ h' = lvE g1 g6 g7 cp cc m X') :=
  acall_nilG (lev_p g1 g6 g7 cp cc m hv n 0 [] X (by simpa using hn) (by omega) (fun x hx => by cases hx))
/-- what Leave returns -/
def levR (m : MktD) : List Int × Int := if faultN m ≠ 0 then ([], faultN m) else (natsI ((fndL (levB m) [] (sizesC okA1 m.hou.length 0)).getD []), 0)
theorem Leave_p (cp cc : Bool) (m : MktD) (hl : m.hou.length ≤ 1000) (hc : m.con.length ≤ 1000) : PCall Try.prog 39 [mktA cp cc m] (fun r => r = .tup [.t (intsT true (levR m).1), intA (levR m).2]) := by
  refine acall_of_awp T0 Try.func39 rfl rfl rfl ?_
  unfold levR
  by_cases h0 : faultN m = 0
  case neg =>
    have d1 := decide_eq_true h0
    rw [if_pos h0]
    repeat (first | refine awp_seq ?_ | refine awp_region_lit rfl ?_)
    refine awl_hw (wt_none rfl) (st_box rfl rfl raA (by first | assumption | (simp only [cellsA]; rfl)) rfl rfl ?_)
    intro g1
    repeat (first | refine awp_seq ?_ | refine awp_region_lit rfl ?_ | (show AWL _ _ _ (⟨_, .assign _, _, _, _, _⟩ :: _) _ _ _; refine awl_pw (wt_none rfl) (pv_assign rfl rfl) rfl rfl ?_) | (show AWL _ _ _ (⟨_, .load _ _, _, _, _, _⟩ :: _) _ _ _; refine awl_lw (wt_none rfl) (lv_cla T0 rfl rfl rfl rcA rfl) rfl rfl rfl ?_) | refine awl_nil ?_)
    refine awl_hw (wt_none rfl) (st_call T0 (check_p cp cc m hl hc) rfl rfl rfl rfl (by first | exact callee_lit | exact callee_v | exact callee_fn | assumption) rcA raA rfl ?_)
    rintro _ rfl
    repeat (first | refine awp_seq ?_ | refine awp_region_lit rfl ?_ | refine awp_ret ?_ | refine then_n ?_ | refine then_r ?_ | refine awp_cond_t rfl (by first | rfl | assumption | exact dT (by omega)) ?_ | (show AWL _ _ _ (⟨_, .move _, _, _, _, _⟩ :: _) _ _ _; refine awl_pw (wt_none rfl) (pv_move rfl rfl) rfl rfl ?_) | (show AWL _ _ _ (⟨_, .assign _, _, _, _, _⟩ :: _) _ _ _; refine awl_pw (wt_none rfl) (pv_assign rfl rfl) rfl rfl ?_) | (show AWL _ _ _ (⟨_, .binOp .neq _ _ _ _, _, _, _, _⟩ :: _) _ _ _; refine awl_pw (wt_none rfl) (pv_neq rfl rfl rfl) rfl rfl ?_) | refine awl_nil ?_)
    refine bodyQ_ghost (ghost_none (d := 2) (t := intsT true []) rfl nil_tree) ?_
    exact body_p (.cons rfl (.cons rfl .nil)) rfl
  have d1 : decide (faultN m ≠ 0) = false := decide_eq_false (fun h => h h0)
  rw [if_neg (fun h => h h0)]
  have hv := vmkt h0
  have hlen := hv.len
  have hsm := lev_some hv
  repeat (first | refine awp_seq ?_ | refine awp_region_lit rfl ?_)
  refine awl_hw (wt_none rfl) (st_box rfl rfl raA (by first | assumption | (simp only [cellsA]; rfl)) rfl rfl ?_)
  intro g1
  repeat (first | refine awp_seq ?_ | refine awp_region_lit rfl ?_ | (show AWL _ _ _ (⟨_, .assign _, _, _, _, _⟩ :: _) _ _ _; refine awl_pw (wt_none rfl) (pv_assign rfl rfl) rfl rfl ?_) | (show AWL _ _ _ (⟨_, .load _ _, _, _, _, _⟩ :: _) _ _ _; refine awl_lw (wt_none rfl) (lv_cla T0 rfl rfl rfl rcA rfl) rfl rfl rfl ?_) | refine awl_nil ?_)
  refine awl_hw (wt_none rfl) (st_call T0 (check_p cp cc m hl hc) rfl rfl rfl rfl (by first | exact callee_lit | exact callee_v | exact callee_fn | assumption) rcA raA rfl ?_)
  rintro _ rfl
  repeat (first | refine awp_seq ?_ | refine awp_region_lit rfl ?_ | refine awp_skip ?_ | refine then_n ?_ | refine awp_cond_f rfl (by first | rfl | assumption | exact dF (by omega)) ?_ | (show AWL _ _ _ (⟨_, .move _, _, _, _, _⟩ :: _) _ _ _; refine awl_pw (wt_none rfl) (pv_move rfl rfl) rfl rfl ?_) | (show AWL _ _ _ (⟨_, .assign _, _, _, _, _⟩ :: _) _ _ _; refine awl_pw (wt_none rfl) (pv_assign rfl rfl) rfl rfl ?_) | (show AWL _ _ _ (⟨_, .binOp .neq _ _ _ _, _, _, _, _⟩ :: _) _ _ _; refine awl_pw (wt_none rfl) (pv_neq rfl rfl rfl) rfl rfl ?_) | refine awl_nil ?_)
  refine awl_hw (wt_none rfl) (st_alloc T0 rfl rfl rfl rfl scA ?_)
  intro g6
  repeat (first | refine awp_seq ?_ | refine awp_region_lit rfl ?_ | refine awl_nil ?_)
  refine awl_hw (wt_none rfl) (st_alloc T0 rfl rfl rfl rfl scA ?_)
  intro g7
  repeat (first | refine awp_seq ?_ | refine awp_region_lit rfl ?_ | refine awl_nil ?_)
  refine awl_pw (wt_none rfl) (pv_makeFunc_v (fs := []) (cs := [ptrV g6, ptrV g1, ptrV g7]) rfl rfl rfl) rfl rfl ?_
  repeat (first | refine awp_seq ?_ | refine awp_block ?_ | refine awp_region_lit rfl ?_ | (show AWL _ _ _ (⟨_, .move _, _, _, _, _⟩ :: _) _ _ _; refine awl_pw (wt_none rfl) (pv_move rfl rfl) rfl rfl ?_) | (show AWL _ _ _ (⟨_, .load _ _, _, _, _, _⟩ :: _) _ _ _; refine awl_lw (wt_none rfl) (lv_cl1 T0 rfl rfl rfl rcA raA) rfl rfl rfl ?_) | (show AWL _ _ _ (⟨_, .fieldAddr _ _ _, _, _, _, _⟩ :: _) _ _ _; refine awl_pw (wt_none rfl) (pv_fa T0 rfl rfl rfl (by simp; rfl)) rfl rfl ?_) | (show AWL _ _ _ (⟨_, .binOp .add _ _ _ _, _, _, _, _⟩ :: _) _ _ _; refine awl_pw (wt_none rfl) (pv_add rfl rfl rfl (by first | assumption | exact wr64 (by omega))) rfl rfl ?_) | (show AWL _ _ _ (⟨_, .call ⟨.builtin .len, _, _⟩, _, _, _, _⟩ :: _) _ _ _; refine awl_pw (wt_none rfl) (pv_len_t T0 rfl rfl rfl) rfl rfl ?_) | (show AWL _ _ _ (⟨_, .store _ _ _, _, _, _, _⟩ :: _) _ _ _; refine awl_hw (wt_none rfl) (st_store T0 rfl rfl rfl rfl rfl (by first | assumption | (simp only [cellsA]; rfl)) rfl rfl rfl rcA rcA trivial ?_)) | refine awl_nil ?_)
  refine awp_cutX (fun s h => ∃ (X : AV) (e : List Nat), fndL (levB m) [] (sizesC okA1 m.hou.length 0) = some e ∧ X = .t (intsT true (natsI e)) ∧ s = [(5, .v (ptrV g6))] ∧ h = lvE g1 g6 g7 cp cc m X) ?_ ?_
  rotate_left
  · rintro s h ⟨X, e, he, rfl, rfl, rfl⟩
    rw [he]
    repeat (first | refine awp_seq ?_ | refine awp_region_lit rfl ?_ | refine awp_ret ?_ | (show AWL _ _ _ (⟨_, .assign _, _, _, _, _⟩ :: _) _ _ _; refine awl_pw (wt_none rfl) (pv_assign rfl rfl) rfl rfl ?_) | (show AWL _ _ _ (⟨_, .load _ _, _, _, _, _⟩ :: _) _ _ _; refine awl_lw (wt_none rfl) (lv_cl1 T0 rfl rfl rfl rcA raA) rfl rfl rfl ?_) | refine awl_nil ?_)
    exact body_p (.cons rfl (.cons rfl .nil)) rfl
  refine awp_loop (fun w s h => ∃ (n : Nat) (X : AV), n ≤ m.hou.length + 1 ∧ w = m.hou.length + 1 - n ∧ fndL (levB m) [] (sizesC okA1 m.hou.length 0) = fndL (levB m) [] (sizesC okA1 m.hou.length n) ∧ s = [(1, .v (ptrV g1)), (5, .v (ptrV g6)), (6, .v (ptrV g7)), (17, intA ((m.hou.length : Int) + 1)), (18, intA n)] ∧ h = lvE g1 g6 g7 cp cc m X) ?_ ⟨0, _, Nat.zero_le _, rfl, rfl, rfl, rfl⟩ ssA rcA
  rintro w s h ⟨n, X, hn, rfl, hR, rfl, rfl⟩
  by_cases hlt : n < m.hou.length + 1
  case neg =>
    obtain rfl : n = m.hou.length + 1 := by omega
    rw [sizesC_end, fnd_nil] at hR
    rw [hR] at hsm
    cases hsm
  have d2 : decide ((n : Int) < (m.hou.length : Int) + 1) = true := decide_eq_true (by omega)
  rw [sizesC_step (k := n) (by omega), fnd_app] at hR
  have hC := lev_top g1 g6 g7 cp cc m hv n X (by omega)
  generalize fndL (levB m) [] (combC okA1 m.hou.length n 0) = F at *
  repeat (first | refine awp_seq ?_ | refine awp_block ?_ | refine awp_region_lit rfl ?_ | refine awp_skip ?_ | refine awp_cond_t rfl (by first | rfl | assumption | exact dT (by omega)) ?_ | (show AWL _ _ _ (⟨_, .move _, _, _, _, _⟩ :: _) _ _ _; refine awl_pw (wt_none rfl) (pv_move rfl rfl) rfl rfl ?_) | (show AWL _ _ _ (⟨_, .assign _, _, _, _, _⟩ :: _) _ _ _; refine awl_pw (wt_none rfl) (pv_assign rfl rfl) rfl rfl ?_) | (show AWL _ _ _ (⟨_, .load _ _, _, _, _, _⟩ :: _) _ _ _; refine awl_lw (wt_none rfl) (lv_cl1 T0 rfl rfl rfl rcA raA) rfl rfl rfl ?_) | (show AWL _ _ _ (⟨_, .binOp .lss _ _ _ _, _, _, _, _⟩ :: _) _ _ _; refine awl_pw (wt_none rfl) (pv_lss rfl rfl rfl) rfl rfl ?_) | refine awl_nil ?_)
  refine awl_hw (wt_none rfl) (st_acall T0 (hC) rfl rfl rfl rfl (by first | exact callee_lit | exact callee_v | exact callee_fn | assumption) rcA raA rfl (by first | ((repeat' (first | exact SubH.refl _ | apply SubH.cons | exact Pick.here | apply Pick.there)); all_goals fail) | fail) (fun _ _ => trivial) ?_)
  rintro r h ⟨rfl, X', hX', rfl⟩
  simp only [List.cons_append, List.nil_append]
  cases c : F with
  | none =>
    rw [c] at hR
    repeat (first | refine awp_region_lit rfl ?_ | refine awp_skip ?_ | refine then_n ?_ | refine awp_cond_f rfl (by first | rfl | assumption | exact dF (by omega)) ?_ | (show AWL _ _ _ (⟨_, .move _, _, _, _, _⟩ :: _) _ _ _; refine awl_pw (wt_none rfl) (pv_move rfl rfl) rfl rfl ?_) | (show AWL _ _ _ (⟨_, .binOp .add _ _ _ _, _, _, _, _⟩ :: _) _ _ _; refine awl_pw (wt_none rfl) (pv_add rfl rfl rfl (by first | assumption | exact wr64 (by omega))) rfl rfl ?_) | refine awl_nil ?_)
    refine rnd_n _ _ _ ?_ ⟨n + 1, X', by omega, rfl, hR, rfl, rfl⟩ ssA rcA
    omega
  | some e =>
    rw [c] at hR
    repeat (first | refine awp_exit ?_ | refine then_n ?_ | refine then_x ?_ | refine blk_x ?_ | refine blk_y rfl ?_ | refine rnd_x ?_ | refine awp_cond_t rfl (by first | rfl | assumption | exact dT (by omega)) ?_ | refine awl_nil ?_)
    exact cut_n ⟨X', e, hR, hX' e c, rfl, rfl⟩ ssA rcA
end Go.Proofs.Ytallicfckbdeaaa
end
section
namespace Go.Proofs.Ytallicfckbdeaaa
open Go Go.RowKit Go.Tl
set_option linter.unusedVariables false
set_option linter.unusedSimpArgs false
set_option maxRecDepth 100000
set_option maxHeartbeats 4000000
attribute [local irreducible] AWP AWL AOp PV LV AWT AWE
theorem refhas_p (cp cc : Bool) (m : MktD) (hv : VMkt m) : PCall Try.prog 36 [mktA cp cc m] (fun r => r = boolA (possB m)) := by
  have hlen := hv.len
  refine acall_of_awp T0 Try.func36 rfl rfl rfl ?_
  repeat (first | refine awp_seq ?_ | refine awp_region_lit rfl ?_)
  refine awl_hw (wt_none rfl) (st_box rfl rfl raA (by first | assumption | (simp only [cellsA]; rfl)) rfl rfl ?_)
  intro g1
  repeat (first | refine awp_seq ?_ | refine awp_block ?_ | refine awp_region_lit rfl ?_ | (show AWL _ _ _ (⟨_, .assign _, _, _, _, _⟩ :: _) _ _ _; refine awl_pw (wt_none rfl) (pv_assign rfl rfl) rfl rfl ?_) | refine awl_nil ?_)
  refine awp_loop (fun q s h => ∃ (k : Nat), k ≤ m.hou.length ∧ q = m.hou.length - k ∧ s = [(1, .v (ptrV g1)), (3, intA (sLo m.hou k)), (4, intA (sHi m.hou k)), (5, intA k)] ∧ h = [.cl g1 25 [intA m.ex, .t (housT cp m.hou), .t (consT cc m.con)]]) ?_ ⟨0, Nat.zero_le _, rfl, rfl, rfl⟩ ssA rcA
  rintro q s h ⟨k, hk, rfl, rfl, rfl⟩
  have hb := s_bd hv k hk
  by_cases hkt : k < m.hou.length
  case neg =>
    obtain rfl : k = m.hou.length := by omega
    have hC := in_q (n := m.ex) (lo := sLo m.hou m.hou.length) (hi := sHi m.hou m.hou.length) rfl
    repeat (first | refine awp_seq ?_ | refine awp_region_lit rfl ?_ | refine awp_exit ?_ | refine then_n ?_ | refine awp_cond_f rfl (by first | rfl | assumption | exact dF (by omega)) ?_ | (show AWL _ _ _ (⟨_, .move _, _, _, _, _⟩ :: _) _ _ _; refine awl_pw (wt_none rfl) (pv_move rfl rfl) rfl rfl ?_) | (show AWL _ _ _ (⟨_, .load _ _, _, _, _, _⟩ :: _) _ _ _; refine awl_lw (wt_none rfl) (lv_cl1 T0 rfl rfl rfl rcA raA) rfl rfl rfl ?_) | (show AWL _ _ _ (⟨_, .fieldAddr _ _ _, _, _, _, _⟩ :: _) _ _ _; refine awl_pw (wt_none rfl) (pv_fa T0 rfl rfl rfl (by simp; rfl)) rfl rfl ?_) | (show AWL _ _ _ (⟨_, .binOp .lss _ _ _ _, _, _, _, _⟩ :: _) _ _ _; refine awl_pw (wt_none rfl) (pv_lss rfl rfl rfl) rfl rfl ?_) | (show AWL _ _ _ (⟨_, .call ⟨.builtin .len, _, _⟩, _, _, _, _⟩ :: _) _ _ _; refine awl_pw (wt_none rfl) (pv_len_t T0 rfl rfl rfl) rfl rfl ?_) | refine awl_nil ?_)
    refine awl_hw (wt_none rfl) (st_call T0 (hC) rfl rfl rfl rfl (by first | exact callee_lit | exact callee_v | exact callee_fn | assumption) rcA raA rfl ?_)
    rintro _ rfl
    repeat (first | refine awp_ret ?_ | (show AWL _ _ _ (⟨_, .assign _, _, _, _, _⟩ :: _) _ _ _; refine awl_pw (wt_none rfl) (pv_assign rfl rfl) rfl rfl ?_) | refine awl_nil ?_)
    exact body_p (.cons rfl .nil) rfl
  have hh := hv.held k hkt
  repeat (first | refine awp_seq ?_ | refine awp_block ?_ | refine awp_region_lit rfl ?_ | refine awp_skip ?_ | refine then_n ?_ | refine awp_cond_t rfl (by first | rfl | assumption | exact dT (by omega)) ?_ | (show AWL _ _ _ (⟨_, .move _, _, _, _, _⟩ :: _) _ _ _; refine awl_pw (wt_none rfl) (pv_move rfl rfl) rfl rfl ?_) | (show AWL _ _ _ (⟨_, .assign _, _, _, _, _⟩ :: _) _ _ _; refine awl_pw (wt_none rfl) (pv_assign rfl rfl) rfl rfl ?_) | (show AWL _ _ _ (⟨_, .load _ _, _, _, _, _⟩ :: _) _ _ _; refine awl_lw (wt_none rfl) (lv_cl1 T0 rfl rfl rfl rcA raA) rfl rfl rfl ?_) | (show AWL _ _ _ (⟨_, .load _ _, _, _, _, _⟩ :: _) _ _ _; refine awl_lw (wt_none rfl) (lv_elt_sc T0 rfl rfl rfl rfl) rfl rfl rfl ?_) | (show AWL _ _ _ (⟨_, .fieldAddr _ _ _, _, _, _, _⟩ :: _) _ _ _; refine awl_pw (wt_none rfl) (pv_fa T0 rfl rfl rfl (by simp; rfl)) rfl rfl ?_) | (show AWL _ _ _ (⟨_, .fieldAddr _ _ _, _, _, _, _⟩ :: _) _ _ _; refine awl_pw (wt_none rfl) (pv_fa_elt T0 rfl rfl rfl (by simp; rfl)) rfl rfl ?_) | (show AWL _ _ _ (⟨_, .indexAddr _ _ _, _, _, _, _⟩ :: _) _ _ _; refine awl_pw (wt_none rfl) (pv_ix_t T0 rfl rfl rfl rfl (by omega) ixA) rfl rfl ?_) | (show AWL _ _ _ (⟨_, .binOp .add _ _ _ _, _, _, _, _⟩ :: _) _ _ _; refine awl_pw (wt_none rfl) (pv_add rfl rfl rfl (by first | assumption | exact wr64 (by omega))) rfl rfl ?_) | (show AWL _ _ _ (⟨_, .binOp .lss _ _ _ _, _, _, _, _⟩ :: _) _ _ _; refine awl_pw (wt_none rfl) (pv_lss rfl rfl rfl) rfl rfl ?_) | (show AWL _ _ _ (⟨_, .call ⟨.builtin .len, _, _⟩, _, _, _, _⟩ :: _) _ _ _; refine awl_pw (wt_none rfl) (pv_len_t T0 rfl rfl rfl) rfl rfl ?_) | refine awl_nil ?_)
  refine rnd_n _ _ _ ?_ ⟨k + 1, hkt, rfl, rfl, rfl⟩ ssA rcA
  omega
end Go.Proofs.Ytallicfckbdeaaa
end
