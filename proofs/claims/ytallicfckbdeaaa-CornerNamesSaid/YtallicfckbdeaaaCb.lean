/- What is owed, needs and spare shares, truths: walks. -/
import Derived.Test.YtallicfckbdeaaaCa
import Derived.Test.YtallicfckbdeaaaGPa
import Derived.Test.YtallicfckbdeaaaGTy
namespace Go.Proofs.Ytallicfckbdeaaa
open Go Go.RowKit Go.Tl
set_option linter.unusedVariables false
set_option linter.unusedSimpArgs false
set_option maxRecDepth 100000
set_option maxHeartbeats 4000000
structure VMkt (m : MktD) : Prop where
  pos : 1 ≤ m.hou.length
  len : m.hou.length ≤ 6
  clen : m.con.length ≤ 8
  ex : 1 ≤ m.ex ∧ m.ex ≤ 200
  held : ∀ i, i < m.hou.length → 0 ≤ (m.hou.getD i default).lo ∧ (m.hou.getD i default).lo ≤ (m.hou.getD i default).hi ∧ (m.hou.getD i default).hi ≤ 200
  ask : ∀ i, i < m.hou.length → 0 ≤ (m.hou.getD i default).ask ∧ (m.hou.getD i default).ask ≤ 1000
  con : ∀ k, k < m.con.length → (0 ≤ (m.con.getD k default).sh ∧ (m.con.getD k default).sh < m.hou.length) ∧ (0 ≤ (m.con.getD k default).lg ∧ (m.con.getD k default).lg < m.hou.length) ∧ (m.con.getD k default).sh ≠ (m.con.getD k default).lg ∧ 1 ≤ (m.con.getD k default).n ∧ (m.con.getD k default).n ≤ 200
theorem vmkt {m : MktD} (h : faultN m = 0) : VMkt m := by
  unfold faultN at h
  split at h
  · cases h
  split at h
  · rename_i h1 h2
    obtain ⟨⟨h3, h4⟩, h5, h6⟩ := h2
    have k3 := inB_iff.1 h3
    have k5 : ∀ i, i < m.hou.length → houB (m.hou.getD i default) = true := all_getD.1 h5
    have k6 : ∀ i, i < m.con.length → conB m.hou.length (m.con.getD i default) = true := all_getD.1 h6
    refine ⟨by omega, by omega, by omega, k3, fun i hi => ?_, fun i hi => ?_, fun i hi => ?_⟩
    · have := k5 i hi
      simp only [houB, Bool.and_eq_true, inB_iff, decide_eq_true_eq] at this
      exact ⟨this.1, this.2.1, this.2.2.1⟩
    · have := k5 i hi
      simp only [houB, Bool.and_eq_true, inB_iff, decide_eq_true_eq] at this
      exact this.2.2.2
    · have := k6 i hi
      simp only [conB, Bool.and_eq_true, inB_iff, decide_eq_true_eq] at this
      exact ⟨by omega, by omega, this.2.2.1, this.2.2.2⟩
  · cases h
/-- what a house gets by the first contracts, less what it delivers -/
def owN (cs : List ConD) : Nat → Nat → Int
  | 0, _ => 0
  | k + 1, i => owN cs k i - (if (cs.getD k default).sh = (i : Int) then (cs.getD k default).n else 0) + (if (cs.getD k default).lg = (i : Int) then (cs.getD k default).n else 0)
abbrev owedN (m : MktD) (i : Nat) : Int := owN m.con m.con.length i
theorem ow_bd {cs : List ConD} (h : ∀ k, k < cs.length → 1 ≤ (cs.getD k default).n ∧ (cs.getD k default).n ≤ 200) (i : Nat) : ∀ k : Nat, k ≤ cs.length → -200 * (k : Int) ≤ owN cs k i ∧ owN cs k i ≤ 200 * (k : Int)
  | 0, _ => by simp [owN]
  | k + 1, hk => by
    have ih := ow_bd h i k (by omega)
    have hn := h k (by omega)
    simp only [owN]
    split <;> split <;> omega
theorem owed_bd {m : MktD} (hv : VMkt m) (i : Nat) : -1600 ≤ owedN m i ∧ owedN m i ≤ 1600 := by
  have h1 := ow_bd (cs := m.con) (fun k hk => (hv.con k hk).2.2.2) i m.con.length (Nat.le_refl _)
  have h2 := hv.clen
  show -1600 ≤ owN m.con m.con.length i ∧ owN m.con m.con.length i ≤ 1600
  omega
def needN (p : Int) : Int := max 0 (-p)
def spareN (h : HouD) (p : Int) : Int := if h.sells = true then max 0 p else 0
/-- whether a list is a truth -/
def leftN (m : MktD) (t : List Int) : Nat → Int
  | 0 => m.ex
  | k + 1 => leftN m t k - t.getD k 0
def truthB (m : MktD) (t : List Int) : Bool := decide (t.length = m.hou.length) && ((List.range m.hou.length).all fun k => inB (t.getD k 0) (m.hou.getD k default).lo (m.hou.getD k default).hi) && decide (leftN m t m.hou.length = 0)
theorem truth_iff {m : MktD} {t : List Int} : truthB m t = true ↔ t.length = m.hou.length ∧ (∀ k, k < m.hou.length → inB (t.getD k 0) (m.hou.getD k default).lo (m.hou.getD k default).hi = true) ∧ leftN m t m.hou.length = 0 := by
  unfold truthB
  simp only [Bool.and_eq_true, decide_eq_true_eq, List.all_eq_true, List.mem_range, and_assoc]
/-- the position of a house -/
abbrev posN (m : MktD) (t : List Int) (i : Nat) : Int := owedN m i + t.getD i 0
def needL (m : MktD) (t : List Int) (n : Nat) : List Int := (List.range n).map fun i => needN (posN m t i)
def spareL (m : MktD) (t : List Int) (n : Nat) : List Int := (List.range n).map fun i => spareN (m.hou.getD i default) (posN m t i)
theorem needL_step (m : MktD) (t : List Int) (n : Nat) : needL m t (n + 1) = needL m t n ++ [needN (posN m t n)] := by simp [needL, List.range_succ]
theorem spareL_step (m : MktD) (t : List Int) (n : Nat) : spareL m t (n + 1) = spareL m t n ++ [spareN (m.hou.getD n default) (posN m t n)] := by simp [spareL, List.range_succ]
theorem needL_len (m : MktD) (t : List Int) (n : Nat) : (needL m t n).length = n := by simp [needL]
theorem spareL_len (m : MktD) (t : List Int) (n : Nat) : (spareL m t n).length = n := by simp [spareL]
theorem arrI_zero : ([intA 0, intA 0, intA 0, intA 0, intA 0, intA 0] : List AV) = arrI (fun _ => 0) 6 := rfl
attribute [local irreducible] AWP AWL AOp PV LV AWT AWE
section
variable {g1 g2 g4 : Nat} {js jl k : Nat} {nn : Int} {d d' : Nat → Int} {T : AV} {n : Int}
theorem cb_4 (hj : js < 6) (hb : -2000 ≤ d js ∧ d js ≤ 2000) (hn : 0 ≤ nn ∧ nn ≤ 2000) (hd : ∀ q, q < 6 → d' q = if q = js then d js - nn else d q) {ops : Array Oper} (h : regF Try.f84 4 = some ops) :
    AWP Try.prog Try.f84.ntmps none (.region 4 ops true) (cutQ (fun s h => s = [(1, .v (ptrV g1)), (2, .v (ptrV g2)), (4, .v (ptrV g4)), (6, T), (7, intA n), (8, intA k)] ∧ h = [.cl g4 75 [intA js, intA jl, intA nn], .cl g2 127 (arrI d' 6)]))
      [(1, .v (ptrV g1)), (2, .v (ptrV g2)), (4, .v (ptrV g4)), (6, T), (7, intA n), (8, intA k)] [.cl g4 75 [intA js, intA jl, intA nn], .cl g2 127 (arrI d 6)] := by
  cases h
  have r1 : (arrI d 6)[js]? = some (intA (d js)) := arrI_at hj
  refine awp_tree T0 [(0, 0), (1, 1), (2, 0), (4, 0), (5, 1), (3, 2), (6, 0), (7, 0), (8, 3)] (.op 0 0 (.op 1 1 (.op 2 0 (.op 4 0 (.op 5 1 (.op 3 2 (.op 6 0 (.op 7 0 (.op 8 3 .stop))))))))) [.cl g4 _ _] rfl (by kernel_rfl) rcA ?_
  refine awt_po rfl (wt_none rfl) (pv_fa T0 rfl rfl rfl (by simp; rfl)) rfl rfl ?_
  refine awt_lo rfl (wt_none rfl) (lv_cl1 T0 rfl rfl rfl rcA raA) rfl rfl rfl ?_
  refine awt_po rfl (wt_none rfl) (pv_ix_arr T0 rfl rfl rfl rfl (by omega) (by simp; rfl)) rfl rfl ?_
  refine awt_po rfl (wt_none rfl) (pv_fa T0 rfl rfl rfl (by simp; rfl)) rfl rfl ?_
  refine awt_lo rfl (wt_none rfl) (lv_cl1 T0 rfl rfl rfl rcA raA) rfl rfl rfl ?_
  refine awt_h (hm := []) rfl (wt_none rfl) rcA rfl (aop_lv (lv_cl1 T0 rfl rfl rfl rcA r1) rfl (blt_lt rfl) ?_)
  refine awt_n1 rfl (wt_none rfl) (pv_sub rfl rfl rfl (by first | assumption | exact wr64 (by omega))) rfl rfl rfl ?_
  refine awt_po rfl (wt_none rfl) (pv_ix_arr T0 rfl rfl rfl rfl (by omega) (by simp; rfl)) rfl rfl ?_
  refine awt_s (md := fun _ => True) rfl (wt_none rfl) (st_arrI T0 rfl rfl rfl rfl rfl rcA hj hd trivial ?_)
  refine awe_end ?_
  exact cut_n ⟨rfl, rfl⟩ ssA rcA
theorem cb_5 (hj : jl < 6) (hb : -2000 ≤ d jl ∧ d jl ≤ 2000) (hn : 0 ≤ nn ∧ nn ≤ 2000) (hd : ∀ q, q < 6 → d' q = if q = jl then d jl + nn else d q) {ops : Array Oper} (h : regF Try.f84 5 = some ops) :
    AWP Try.prog Try.f84.ntmps none (.region 5 ops true) (cutQ (fun s h => s = [(1, .v (ptrV g1)), (2, .v (ptrV g2)), (6, T), (7, intA n), (8, intA k)] ∧ h = [.cl g2 127 (arrI d' 6)]))
      [(1, .v (ptrV g1)), (2, .v (ptrV g2)), (4, .v (ptrV g4)), (6, T), (7, intA n), (8, intA k)] [.cl g4 75 [intA js, intA jl, intA nn], .cl g2 127 (arrI d 6)] := by
  cases h
  have r1 : (arrI d 6)[jl]? = some (intA (d jl)) := arrI_at hj
  refine awp_tree T0 [(0, 0), (1, 1), (2, 0), (4, 0), (5, 1), (3, 2), (6, 0), (7, 0), (8, 3)] (.op 0 0 (.op 1 1 (.op 2 0 (.op 4 0 (.op 5 1 (.op 3 2 (.op 6 0 (.op 7 0 (.op 8 3 .stop))))))))) [.cl g4 _ _] rfl (by kernel_rfl) rcA ?_
  refine awt_po rfl (wt_none rfl) (pv_fa T0 rfl rfl rfl (by simp; rfl)) rfl rfl ?_
  refine awt_lo rfl (wt_none rfl) (lv_cl1 T0 rfl rfl rfl rcA raA) rfl rfl rfl ?_
  refine awt_po rfl (wt_none rfl) (pv_ix_arr T0 rfl rfl rfl rfl (by omega) (by simp; rfl)) rfl rfl ?_
  refine awt_po rfl (wt_none rfl) (pv_fa T0 rfl rfl rfl (by simp; rfl)) rfl rfl ?_
  refine awt_lo rfl (wt_none rfl) (lv_cl1 T0 rfl rfl rfl rcA raA) rfl rfl rfl ?_
  refine awt_h (hm := []) rfl (wt_none rfl) rcA rfl (aop_lv (lv_cl1 T0 rfl rfl rfl rcA r1) rfl (blt_lt rfl) ?_)
  refine awt_n1 rfl (wt_none rfl) (pv_add rfl rfl rfl (by first | assumption | exact wr64 (by omega))) rfl rfl rfl ?_
  refine awt_po rfl (wt_none rfl) (pv_ix_arr T0 rfl rfl rfl rfl (by omega) (by simp; rfl)) rfl rfl ?_
  refine awt_s (md := fun _ => True) rfl (wt_none rfl) (st_arrI T0 rfl rfl rfl rfl rfl rcA hj hd trivial ?_)
  refine awe_end ?_
  exact cut_n ⟨rfl, rfl⟩ ssA rcA
end
theorem owed_p (cp cc : Bool) (m : MktD) (hv : VMkt m) : PCall Try.prog 84 [mktA cp cc m] (fun r => r = .ag (arrI (owedN m) 6)) := by
  have hlen := hv.len
  have hcl := hv.clen
  refine acall_of_awp T0 Try.func84 rfl rfl rfl ?_
  repeat (first | refine awp_seq ?_ | refine awp_region_lit rfl ?_)
  refine awl_hw (wt_none rfl) (st_box rfl rfl raA (by first | assumption | (simp only [cellsA]; rfl)) rfl rfl ?_)
  intro g1
  skip
  refine awl_hw (wt_none rfl) (st_alloc T0 rfl rfl rfl rfl scA ?_)
  intro g2
  repeat (first | refine awp_seq ?_ | refine awp_block ?_ | refine awp_region_lit rfl ?_ | (show AWL _ _ _ (⟨_, .move _, _, _, _, _⟩ :: _) _ _ _; refine awl_pw (wt_none rfl) (pv_move rfl rfl) rfl rfl ?_) | (show AWL _ _ _ (⟨_, .load _ _, _, _, _, _⟩ :: _) _ _ _; refine awl_lw (wt_none rfl) (lv_cl1 T0 rfl rfl rfl rcA raA) rfl rfl rfl ?_) | (show AWL _ _ _ (⟨_, .fieldAddr _ _ _, _, _, _, _⟩ :: _) _ _ _; refine awl_pw (wt_none rfl) (pv_fa T0 rfl rfl rfl (by simp; rfl)) rfl rfl ?_) | (show AWL _ _ _ (⟨_, .call ⟨.builtin .len, _, _⟩, _, _, _, _⟩ :: _) _ _ _; refine awl_pw (wt_none rfl) (pv_len_t T0 rfl rfl rfl) rfl rfl ?_) | refine awl_nil ?_)
  rw [arrI_zero]
  refine awp_loop (fun q s h => ∃ (k : Nat), k ≤ m.con.length ∧ q = m.con.length - k ∧ s = [(1, .v (ptrV g1)), (2, .v (ptrV g2)), (6, .t (consT cc m.con)), (7, intA m.con.length), (8, intA k)] ∧ h = [.cl g2 127 (arrI (owN m.con k) 6)]) ?_ ⟨0, Nat.zero_le _, rfl, rfl, rfl⟩ ssA rcA
  rintro q s h ⟨k, hk, rfl, rfl, rfl⟩
  by_cases hkt : k < m.con.length
  case neg =>
    obtain rfl : k = m.con.length := by omega
    repeat (first | refine awp_seq ?_ | refine awp_region_lit rfl ?_ | refine awp_exit ?_ | refine awp_ret ?_ | refine awp_cond_f rfl (by first | rfl | assumption | exact dF (by omega)) ?_ | (show AWL _ _ _ (⟨_, .load _ _, _, _, _, _⟩ :: _) _ _ _; refine awl_lw (wt_none rfl) (lv_cla T0 rfl rfl rfl rcA rfl) rfl rfl rfl ?_) | (show AWL _ _ _ (⟨_, .binOp .lss _ _ _ _, _, _, _, _⟩ :: _) _ _ _; refine awl_pw (wt_none rfl) (pv_lss rfl rfl rfl) rfl rfl ?_) | (show AWL _ _ _ (⟨_, .store _ _ _, _, _, _, _⟩ :: _) _ _ _; refine awl_hw (wt_none rfl) (st_store T0 rfl rfl rfl rfl rfl (by first | assumption | (simp only [cellsA]; rfl)) rfl rfl rfl rcA rcA trivial ?_)) | refine awl_nil ?_)
    refine body_p (res_cell rfl rfl rcA rfl rfl rfl .nil) ?_
    rfl
  obtain ⟨hs, hl, hne, hn⟩ := hv.con k hkt
  have hb := fun i => ow_bd (cs := m.con) (fun k hk => (hv.con k hk).2.2.2) i k (by omega)
  obtain ⟨js, hjs⟩ : ∃ j : Nat, (m.con.getD k default).sh = j := ⟨(m.con.getD k default).sh.toNat, by omega⟩
  obtain ⟨jl, hjl⟩ : ∃ j : Nat, (m.con.getD k default).lg = j := ⟨(m.con.getD k default).lg.toNat, by omega⟩
  have hjs' : (m.con.getD k default).sh = (js : Int) := hjs
  have hjl' : (m.con.getD k default).lg = (jl : Int) := hjl
  have hst : ∀ i, owN m.con (k + 1) i = owN m.con k i - (if (js : Int) = (i : Int) then (m.con.getD k default).n else 0) + (if (jl : Int) = (i : Int) then (m.con.getD k default).n else 0) := fun i => by rw [← hjs', ← hjl']; rfl
  have hn' : 1 ≤ (m.con.getD k default).n ∧ (m.con.getD k default).n ≤ 200 := hn
  have hb1 := hb js
  have hb2 := hb jl
  have r1 : (arrI (owN m.con k) 6)[js]? = some (intA (owN m.con k js)) := arrI_at (by omega)
  obtain ⟨D, hD⟩ : ∃ D : Nat → Int, ∀ q, D q = if q = js then owN m.con k js - (m.con.getD k default).n else owN m.con k q := ⟨fun q => if q = js then owN m.con k js - (m.con.getD k default).n else owN m.con k q, fun _ => rfl⟩
  have hDl : D jl = owN m.con k jl := by rw [hD, if_neg (by omega)]
  have r2 : (arrI D 6)[jl]? = some (intA (owN m.con k jl)) := by rw [arrI_at (by omega), hDl]
  have hsd : ∀ q, q < 6 → owN m.con (k + 1) q = if q = jl then owN m.con k jl + (m.con.getD k default).n else D q := by
    intro q hq
    rw [hst, hD]
    by_cases e1 : q = js
    · subst e1; (repeat' split) <;> omega
    · by_cases e2 : q = jl
      · subst e2; (repeat' split) <;> omega
      · (repeat' split) <;> omega
  have hj6 : js < 6 := by omega
  have hl6 : jl < 6 := by omega
  repeat (first | refine awp_seq ?_ | refine awp_block ?_ | refine awp_region_lit rfl ?_ | refine awp_skip ?_ | refine awp_cond_t rfl (by first | rfl | assumption | exact dT (by omega)) ?_ | (show AWL _ _ _ (⟨_, .load _ _, _, _, _, _⟩ :: _) _ _ _; refine awl_lw (wt_none rfl) (lv_elt_ag T0 rfl rfl rfl rfl rcA) rfl rfl rfl ?_) | (show AWL _ _ _ (⟨_, .indexAddr _ _ _, _, _, _, _⟩ :: _) _ _ _; refine awl_pw (wt_none rfl) (pv_ix_t T0 rfl rfl rfl rfl (by omega) ixA) rfl rfl ?_) | (show AWL _ _ _ (⟨_, .binOp .lss _ _ _ _, _, _, _, _⟩ :: _) _ _ _; refine awl_pw (wt_none rfl) (pv_lss rfl rfl rfl) rfl rfl ?_) | refine awl_nil ?_)
  refine awl_hw (wt_none rfl) (st_alloc T0 rfl rfl rfl rfl scA ?_)
  intro g4
  repeat (first | refine awp_seq ?_ | (show AWL _ _ _ (⟨_, .store _ _ _, _, _, _, _⟩ :: _) _ _ _; refine awl_hw (wt_none rfl) (st_store T0 rfl rfl rfl rfl rfl (by first | assumption | (simp only [cellsA]; rfl)) rfl rfl rfl rcA rcA trivial ?_)) | refine awl_nil ?_)
  rw [hjs', hjl']
  generalize (m.con.getD k default).n = nn at *
  have hDb : -2000 ≤ D jl ∧ D jl ≤ 2000 := by rw [hDl]; omega
  refine awp_cut _ (awp_weak ssA rcA (cb_4 (d := owN m.con k) (d' := D) (g1 := g1) (g4 := g4) (T := .t (consT cc m.con)) (n := m.con.length) (k := k) (jl := jl) hj6 (by omega) (by omega) (fun q _ => hD q) rfl)) ?_
  rintro s h ⟨rfl, rfl⟩
  refine awp_cutB _ (awp_weak ssA rcA (cb_5 (d := D) (d' := owN m.con (k + 1)) (g1 := g1) (T := .t (consT cc m.con)) (n := m.con.length) (k := k) hl6 hDb (by omega) (fun q hq => by rw [hDl]; exact hsd q hq) rfl)) ?_
  rintro s h ⟨rfl, rfl⟩
  repeat (first | refine awp_region_lit rfl ?_ | (show AWL _ _ _ (⟨_, .move _, _, _, _, _⟩ :: _) _ _ _; refine awl_pw (wt_none rfl) (pv_move rfl rfl) rfl rfl ?_) | (show AWL _ _ _ (⟨_, .binOp .add _ _ _ _, _, _, _, _⟩ :: _) _ _ _; refine awl_pw (wt_none rfl) (pv_add rfl rfl rfl (by first | assumption | exact wr64 (by omega))) rfl rfl ?_) | refine awl_nil ?_)
  refine rnd_n _ _ _ ?_ ⟨k + 1, by omega, rfl, rfl, rfl⟩ ssA rcA
  omega
theorem need_p (hh : HouD) (p : Int) (hp : -1000000 ≤ p ∧ p ≤ 1000000) : PCall Try.prog 85 [houA hh, intA p] (fun r => r = intA (needN p)) := by
  have h0 : (0 : Int) - p = -p := by omega
  refine acall_of_awp T0 Try.func85 rfl rfl rfl ?_
  repeat (first | refine awp_seq ?_ | refine awp_region_lit rfl ?_)
  refine awl_hw (wt_none rfl) (st_box rfl rfl raA (by first | assumption | (simp only [cellsA]; rfl)) rfl rfl ?_)
  intro g2
  repeat (first | refine awp_seq ?_ | refine awp_region_lit rfl ?_ | (show AWL _ _ _ (⟨_, .move _, _, _, _, _⟩ :: _) _ _ _; refine awl_pw (wt_none rfl) (pv_move rfl rfl) rfl rfl ?_) | (show AWL _ _ _ (⟨_, .assign _, _, _, _, _⟩ :: _) _ _ _; refine awl_pw (wt_none rfl) (pv_assign rfl rfl) rfl rfl ?_) | refine awl_nil ?_)
  refine awl_pw (wt_none rfl) (pv_neg (c := -p) rfl rfl (by rw [h0]; exact wr64 (by omega))) rfl rfl ?_
  repeat (first | refine awp_ret ?_ | (show AWL _ _ _ (⟨_, .assign _, _, _, _, _⟩ :: _) _ _ _; refine awl_pw (wt_none rfl) (pv_assign rfl rfl) rfl rfl ?_) | (show AWL _ _ _ (⟨_, .call ⟨.builtin .max, _, _⟩, _, _, _, _⟩ :: _) _ _ _; refine awl_pw (wt_none rfl) (pv_max2 rfl rfl rfl) rfl rfl ?_) | refine awl_nil ?_)
  exact body_p (.cons rfl .nil) rfl
theorem spare_p (hh : HouD) (p : Int) : PCall Try.prog 86 [houA hh, intA p] (fun r => r = intA (spareN hh p)) := by
  refine acall_of_awp T0 Try.func86 rfl rfl rfl ?_
  obtain ⟨lo, hi, sells, ask⟩ := hh
  cases sells
  · repeat (first | refine awp_seq ?_ | refine awp_region_lit rfl ?_)
    refine awl_hw (wt_none rfl) (st_box rfl rfl raA (by first | assumption | (simp only [cellsA]; rfl)) rfl rfl ?_)
    intro g2
    repeat (first | refine awp_seq ?_ | refine awp_region_lit rfl ?_ | refine awp_ret ?_ | refine then_n ?_ | refine then_r ?_ | refine awp_cond_t rfl (by first | rfl | assumption | exact dT (by omega)) ?_ | (show AWL _ _ _ (⟨_, .assign _, _, _, _, _⟩ :: _) _ _ _; refine awl_pw (wt_none rfl) (pv_assign rfl rfl) rfl rfl ?_) | (show AWL _ _ _ (⟨_, .load _ _, _, _, _, _⟩ :: _) _ _ _; refine awl_lw (wt_none rfl) (lv_cl1 T0 rfl rfl rfl rcA raA) rfl rfl rfl ?_) | (show AWL _ _ _ (⟨_, .fieldAddr _ _ _, _, _, _, _⟩ :: _) _ _ _; refine awl_pw (wt_none rfl) (pv_fa T0 rfl rfl rfl (by simp; rfl)) rfl rfl ?_) | (show AWL _ _ _ (⟨_, .unOp .not _ _, _, _, _, _⟩ :: _) _ _ _; refine awl_pw (wt_none rfl) (pv_not rfl rfl) rfl rfl ?_) | refine awl_nil ?_)
    exact body_p (.cons rfl .nil) rfl
  · repeat (first | refine awp_seq ?_ | refine awp_region_lit rfl ?_)
    refine awl_hw (wt_none rfl) (st_box rfl rfl raA (by first | assumption | (simp only [cellsA]; rfl)) rfl rfl ?_)
    intro g2
    repeat (first | refine awp_seq ?_ | refine awp_region_lit rfl ?_ | refine awp_skip ?_ | refine awp_ret ?_ | refine then_n ?_ | refine awp_cond_f rfl (by first | rfl | assumption | exact dF (by omega)) ?_ | (show AWL _ _ _ (⟨_, .move _, _, _, _, _⟩ :: _) _ _ _; refine awl_pw (wt_none rfl) (pv_move rfl rfl) rfl rfl ?_) | (show AWL _ _ _ (⟨_, .assign _, _, _, _, _⟩ :: _) _ _ _; refine awl_pw (wt_none rfl) (pv_assign rfl rfl) rfl rfl ?_) | (show AWL _ _ _ (⟨_, .load _ _, _, _, _, _⟩ :: _) _ _ _; refine awl_lw (wt_none rfl) (lv_cl1 T0 rfl rfl rfl rcA raA) rfl rfl rfl ?_) | (show AWL _ _ _ (⟨_, .fieldAddr _ _ _, _, _, _, _⟩ :: _) _ _ _; refine awl_pw (wt_none rfl) (pv_fa T0 rfl rfl rfl (by simp; rfl)) rfl rfl ?_) | (show AWL _ _ _ (⟨_, .call ⟨.builtin .max, _, _⟩, _, _, _, _⟩ :: _) _ _ _; refine awl_pw (wt_none rfl) (pv_max2 rfl rfl rfl) rfl rfl ?_) | (show AWL _ _ _ (⟨_, .unOp .not _ _, _, _, _, _⟩ :: _) _ _ _; refine awl_pw (wt_none rfl) (pv_not rfl rfl) rfl rfl ?_) | refine awl_nil ?_)
    exact body_p (.cons rfl .nil) rfl
theorem needN_bd {p : Int} (hp : -1000000 ≤ p ∧ p ≤ 1000000) : 0 ≤ needN p ∧ needN p ≤ 1000000 := by unfold needN; omega
theorem spareN_bd {hh : HouD} {p : Int} (hp : -1000000 ≤ p ∧ p ≤ 1000000) : 0 ≤ spareN hh p ∧ spareN hh p ≤ 1000000 := by unfold spareN; split <;> omega
theorem short_p (hh : HouD) (p : Int) (hp : -1000000 ≤ p ∧ p ≤ 1000000) : PCall Try.prog 68 [houA hh, intA p] (fun r => r = intA (needN p - spareN hh p)) := by
  have h1 := needN_bd hp
  have h2 := spareN_bd (hh := hh) hp
  refine acall_of_awp T0 Try.func68 rfl rfl rfl ?_
  repeat (first | refine awp_seq ?_ | refine awp_region_lit rfl ?_)
  refine awl_hw (wt_none rfl) (st_box rfl rfl raA (by first | assumption | (simp only [cellsA]; rfl)) rfl rfl ?_)
  intro g2
  repeat (first | refine awp_seq ?_ | (show AWL _ _ _ (⟨_, .assign _, _, _, _, _⟩ :: _) _ _ _; refine awl_pw (wt_none rfl) (pv_assign rfl rfl) rfl rfl ?_) | refine awl_nil ?_)
  refine awp_cut (M := fun s h => s = [(4, intA (needN p - spareN hh p))] ∧ h = []) ?_ ?_
  · refine awp_weak (s' := [(2, .v (ptrV g2)), (1, intA p)]) (h' := [.cl g2 73 [intA hh.lo, intA hh.hi, boolA hh.sells, intA hh.ask]]) ssA rcA ?_
    refine awp_par T0 (l := (0 :: 1 :: 2 :: 3 :: 4 :: 5 :: 6 :: 7 :: [])) rfl (by kernel_rfl) (by kernel_rfl) ?_
    apply parW_op (ds := [2]) rfl rfl rfl rfl (by kernel_rfl)
    · exact .inl ⟨(wt_none rfl), stepQ_lv (lv_cla T0 rfl rfl rfl rcA rfl) rfl rfl⟩
    apply parW_op (ds := [1]) rfl rfl rfl rfl (by kernel_rfl)
    · exact .inl ⟨(wt_none rfl), stepQ_pv (pv_move rfl rfl) rfl rfl⟩
    apply parW_op (ds := [5, 6]) rfl rfl rfl rfl (by kernel_rfl)
    · refine .inl ⟨(wt_none rfl), ?_⟩
      refine st_call T0 (need_p hh p hp) rfl rfl rfl rfl (by first | exact callee_lit | exact callee_v | exact callee_fn | assumption) rcA raA rfl ?_
      rintro _ rfl
      exact ⟨_, Ghost.refl, rfl⟩
    apply parW_op (ds := [2]) rfl rfl rfl rfl (by kernel_rfl)
    · exact .inl ⟨(wt_none rfl), stepQ_lv (lv_cla T0 rfl rfl rfl rcA rfl) rfl rfl⟩
    apply parW_op (ds := [1]) rfl rfl rfl rfl (by kernel_rfl)
    · exact .inl ⟨(wt_none rfl), stepQ_pv (pv_move rfl rfl) rfl rfl⟩
    apply parW_op (ds := [8, 9]) rfl rfl rfl rfl (by kernel_rfl)
    · refine .inl ⟨(wt_none rfl), ?_⟩
      refine st_call T0 (spare_p hh p) rfl rfl rfl rfl (by first | exact callee_lit | exact callee_v | exact callee_fn | assumption) rcA raA rfl ?_
      rintro _ rfl
      exact ⟨_, Ghost.refl, rfl⟩
    apply parW_op (ds := [7, 10]) rfl rfl rfl rfl (by kernel_rfl)
    · exact .inl ⟨(wt_none rfl), stepQ_pv (pv_sub rfl rfl rfl (by first | assumption | exact wr64 (by omega))) rfl rfl⟩
    apply parW_op (ds := [11]) rfl rfl rfl rfl (by kernel_rfl)
    · exact .inl ⟨(wt_none rfl), stepQ_pv (pv_assign rfl rfl) rfl rfl⟩
    refine parW_nil ?_
    exact cut_n ⟨rfl, rfl⟩ ssA rcA
  rintro s h ⟨rfl, rfl⟩
  repeat (first | refine awp_ret ?_)
  exact body_p (.cons rfl .nil) rfl
theorem surplus_p (hh : HouD) (p : Int) (hp : -1000000 ≤ p ∧ p ≤ 1000000) : PCall Try.prog 69 [houA hh, intA p] (fun r => r = intA (spareN hh p - needN p)) := by
  have h1 := needN_bd hp
  have h2 := spareN_bd (hh := hh) hp
  refine acall_of_awp T0 Try.func69 rfl rfl rfl ?_
  repeat (first | refine awp_seq ?_ | refine awp_region_lit rfl ?_)
  refine awl_hw (wt_none rfl) (st_box rfl rfl raA (by first | assumption | (simp only [cellsA]; rfl)) rfl rfl ?_)
  intro g2
  repeat (first | refine awp_seq ?_ | (show AWL _ _ _ (⟨_, .assign _, _, _, _, _⟩ :: _) _ _ _; refine awl_pw (wt_none rfl) (pv_assign rfl rfl) rfl rfl ?_) | refine awl_nil ?_)
  refine awp_cut (M := fun s h => s = [(4, intA (spareN hh p - needN p))] ∧ h = []) ?_ ?_
  · refine awp_weak (s' := [(2, .v (ptrV g2)), (1, intA p)]) (h' := [.cl g2 73 [intA hh.lo, intA hh.hi, boolA hh.sells, intA hh.ask]]) ssA rcA ?_
    refine awp_par T0 (l := (0 :: 1 :: 2 :: 3 :: 4 :: 5 :: 6 :: 7 :: [])) rfl (by kernel_rfl) (by kernel_rfl) ?_
    apply parW_op (ds := [2]) rfl rfl rfl rfl (by kernel_rfl)
    · exact .inl ⟨(wt_none rfl), stepQ_lv (lv_cla T0 rfl rfl rfl rcA rfl) rfl rfl⟩
    apply parW_op (ds := [1]) rfl rfl rfl rfl (by kernel_rfl)
    · exact .inl ⟨(wt_none rfl), stepQ_pv (pv_move rfl rfl) rfl rfl⟩
    apply parW_op (ds := [5, 6]) rfl rfl rfl rfl (by kernel_rfl)
    · refine .inl ⟨(wt_none rfl), ?_⟩
      refine st_call T0 (spare_p hh p) rfl rfl rfl rfl (by first | exact callee_lit | exact callee_v | exact callee_fn | assumption) rcA raA rfl ?_
      rintro _ rfl
      exact ⟨_, Ghost.refl, rfl⟩
    apply parW_op (ds := [2]) rfl rfl rfl rfl (by kernel_rfl)
    · exact .inl ⟨(wt_none rfl), stepQ_lv (lv_cla T0 rfl rfl rfl rcA rfl) rfl rfl⟩
    apply parW_op (ds := [1]) rfl rfl rfl rfl (by kernel_rfl)
    · exact .inl ⟨(wt_none rfl), stepQ_pv (pv_move rfl rfl) rfl rfl⟩
    apply parW_op (ds := [8, 9]) rfl rfl rfl rfl (by kernel_rfl)
    · refine .inl ⟨(wt_none rfl), ?_⟩
      refine st_call T0 (need_p hh p hp) rfl rfl rfl rfl (by first | exact callee_lit | exact callee_v | exact callee_fn | assumption) rcA raA rfl ?_
      rintro _ rfl
      exact ⟨_, Ghost.refl, rfl⟩
    apply parW_op (ds := [7, 10]) rfl rfl rfl rfl (by kernel_rfl)
    · exact .inl ⟨(wt_none rfl), stepQ_pv (pv_sub rfl rfl rfl (by first | assumption | exact wr64 (by omega))) rfl rfl⟩
    apply parW_op (ds := [11]) rfl rfl rfl rfl (by kernel_rfl)
    · exact .inl ⟨(wt_none rfl), stepQ_pv (pv_assign rfl rfl) rfl rfl⟩
    refine parW_nil ?_
    exact cut_n ⟨rfl, rfl⟩ ssA rcA
  rintro s h ⟨rfl, rfl⟩
  repeat (first | refine awp_ret ?_)
  exact body_p (.cons rfl .nil) rfl
theorem intRows_range (l : List Int) : ((List.range l.length).map fun k => List.map AV.ofTr [Tr.sc (.int .i64 (l.getD k 0))]) = l.map intRow := by
  refine List.ext_getElem (by simp) fun k h1 h2 => ?_
  simp at h1 h2
  simp [List.getD_eq_getElem?_getD, h1, AV.ofTr, intRow]
theorem list_o (cp : Bool) (l : List Int) (hl : l.length ≤ 1000) : ACall Try.prog 21 [.t (intsT cp l)] [] (fun r h' => ∃ a c, r = .v (.slice a l.length c) ∧ h' = [.rw (.slice a l.length c) 3 1 (l.map intRow)]) := by
  refine acall_of_awp T0 Try.func21 rfl rfl rfl ?_
  repeat (first | refine awp_seq ?_ | refine awp_region_lit rfl ?_ | (show AWL _ _ _ (⟨_, .assign _, _, _, _, _⟩ :: _) _ _ _; refine awl_pw (wt_none rfl) (pv_assign rfl rfl) rfl rfl ?_) | refine awl_nil ?_)
  refine awl_hw (wt_none rfl) (st_bsl T0 rfl rfl rfl rfl rfl rcA rfl rfl rfl rfl (by simp only [List.map_cons, List.map_nil, cellsA]; rfl) ?_)
  intro g3
  repeat (first | (show AWL _ _ _ (⟨_, .move _, _, _, _, _⟩ :: _) _ _ _; refine awl_pw (wt_none rfl) (pv_move rfl rfl) rfl rfl ?_))
  refine awl_hw (wt_none rfl) (st_appt T0 rfl rfl rfl rfl rfl rfl rfl rfl rfl rcA (by intro k hk u hu; simp at hu; subst hu; rfl) (by (try simp only [List.length_nil, List.length_map, List.length_append, List.length_cons]); rfl) (by first | omega | (simp; omega)) (fun _ _ => trivial) rfl ?_)
  intro a c p
  simp only [List.nil_append, Nat.zero_add]
  rw [intRows_range]
  repeat (first | refine awp_ret ?_ | (show AWL _ _ _ (⟨_, .assign _, _, _, _, _⟩ :: _) _ _ _; refine awl_pw (wt_none rfl) (pv_assign rfl rfl) rfl rfl ?_) | refine awl_nil ?_)
  exact body_r (h' := [.rw (.slice a l.length c) 3 1 (l.map intRow)]) (.cons rfl .nil) rcA ⟨a, c, rfl, rfl⟩
theorem list_p (cp : Bool) (l : List Int) (hl : l.length ≤ 1000) : PCall Try.prog 21 [.t (intsT cp l)] (fun r => r = .t (intsT true l)) := by
  refine acall_of_awp T0 Try.func21 rfl rfl rfl ?_
  repeat (first | refine awp_seq ?_ | refine awp_region_lit rfl ?_ | (show AWL _ _ _ (⟨_, .assign _, _, _, _, _⟩ :: _) _ _ _; refine awl_pw (wt_none rfl) (pv_assign rfl rfl) rfl rfl ?_) | refine awl_nil ?_)
  refine awl_hw (wt_none rfl) (st_bsl T0 rfl rfl rfl rfl rfl rcA rfl rfl rfl rfl (by simp only [List.map_cons, List.map_nil, cellsA]; rfl) ?_)
  intro g3
  repeat (first | (show AWL _ _ _ (⟨_, .move _, _, _, _, _⟩ :: _) _ _ _; refine awl_pw (wt_none rfl) (pv_move rfl rfl) rfl rfl ?_))
  refine awl_hw (wt_none rfl) (st_appt T0 rfl rfl rfl rfl rfl rfl rfl rfl rfl rcA (by intro k hk u hu; simp at hu; subst hu; rfl) (by (try simp only [List.length_nil, List.length_map, List.length_append, List.length_cons]); rfl) (by first | omega | (simp; omega)) (fun _ _ => trivial) rfl ?_)
  intro a c p
  simp only [List.nil_append, Nat.zero_add]
  rw [intRows_range]
  refine awl_ghost (ghost_freeze (E := 3) (sz := 1) (n := l.length) (rows := l.map intRow) (d := 5) (fun q => [.sc (.int .i64 (l.getD q 0))]) rcA rfl (by simp) (intRows_tree _)) ?_
  repeat (first | refine awp_ret ?_ | (show AWL _ _ _ (⟨_, .assign _, _, _, _, _⟩ :: _) _ _ _; refine awl_pw (wt_none rfl) (pv_assign rfl rfl) rfl rfl ?_) | refine awl_nil ?_)
  exact body_p (.cons rfl .nil) rfl
end Go.Proofs.Ytallicfckbdeaaa
