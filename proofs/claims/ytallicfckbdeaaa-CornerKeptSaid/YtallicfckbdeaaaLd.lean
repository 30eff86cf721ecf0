/- A truth by words: walks of word (Try.func83), Picked (Try.func45). -/
import Derived.Test.YtallicfckbdeaaaLb
import Derived.Test.YtallicfckbdeaaaGOb
import Derived.Test.YtallicfckbdeaaaGTy
import Derived.Test.YtallicfckbdeaaaGTs
import Derived.Test.YtallicfckbdeaaaGPa
namespace Go.Proofs.Ytallicfckbdeaaa
open Go Go.RowKit Go.Tl
set_option linter.unusedVariables false
set_option linter.unusedSimpArgs false
set_option maxRecDepth 100000
set_option maxHeartbeats 4000000
def wordN (ws : List Int) (i : Nat) : Int := if ws.length = 0 then 0 else ws.getD (i % ws.length) 0
theorem word_bd {ws : List Int} (hw : ∀ x ∈ ws, 0 ≤ x ∧ x ≤ 65535) (i : Nat) : 0 ≤ wordN ws i ∧ wordN ws i ≤ 65535 := by
  unfold wordN
  split
  · omega
  · exact hw _ (getD_mem (Nat.mod_lt _ (by omega)))
/-- the houses are gone round -/
theorem round_all {n w i : Nat} (h1 : 1 ≤ n) (h6 : n ≤ 6) (hi : i < n) : ∃ j, n ≤ j ∧ j < 2 * n ∧ (j + w) % n = i := by
  rcases (show n = 1 ∨ n = 2 ∨ n = 3 ∨ n = 4 ∨ n = 5 ∨ n = 6 by omega) with rfl | rfl | rfl | rfl | rfl | rfl
  · exact ⟨1, by omega, by omega, by omega⟩
  · exact ⟨2 + (i + 2 - w % 2) % 2, by omega, by omega, by omega⟩
  · exact ⟨3 + (i + 3 - w % 3) % 3, by omega, by omega, by omega⟩
  · exact ⟨4 + (i + 4 - w % 4) % 4, by omega, by omega, by omega⟩
  · exact ⟨5 + (i + 5 - w % 5) % 5, by omega, by omega, by omega⟩
  · exact ⟨6 + (i + 6 - w % 6) % 6, by omega, by omega, by omega⟩
/-- what holds of the holdings so far -/
structure PkI (m : MktD) (w k : Nat) (T : Nat → Int) (left : Int) : Prop where
  bd : ∀ i, i < m.hou.length → (m.hou.getD i default).lo ≤ T i ∧ T i ≤ (m.hou.getD i default).hi
  lft : 0 ≤ left ∧ left ≤ 200
  sum : sumF T m.hou.length + left = m.ex
  full : ∀ j, m.hou.length ≤ j → j < k → left = 0 ∨ T ((j + w) % m.hou.length) = (m.hou.getD ((j + w) % m.hou.length) default).hi
theorem sumF_set {T T' : Nat → Int} {n i : Nat} {x : Int} (hi : i < n) (h : ∀ q, q < n → T' q = if q = i then T i + x else T q) : sumF T' n = sumF T n + x := by
  have e : sumF T' n = sumF (fun q => T q + (if (i : Int) = (q : Int) then x else 0)) n := sumF_congr fun q hq => by
    rw [h q hq]
    by_cases c : q = i
    · subst c; rw [if_pos rfl, if_pos rfl]
    · rw [if_neg c, if_neg (by omega), Int.add_zero]
  rw [e, sumF_add T, sumF_one, if_pos hi]
theorem pk_step {m : MktD} {w k : Nat} {T T' : Nat → Int} {left x : Int} (h : PkI m w k T left) (hpos : 1 ≤ m.hou.length) (hx : 0 ≤ x ∧ x ≤ left ∧ x ≤ (m.hou.getD ((k + w) % m.hou.length) default).hi - T ((k + w) % m.hou.length))
    (hm : m.hou.length ≤ k → x = min left ((m.hou.getD ((k + w) % m.hou.length) default).hi - T ((k + w) % m.hou.length)))
    (hT : ∀ q, q < m.hou.length → T' q = if q = (k + w) % m.hou.length then T ((k + w) % m.hou.length) + x else T q) : PkI m w (k + 1) T' (left - x) := by
  have hi : (k + w) % m.hou.length < m.hou.length := Nat.mod_lt _ (by omega)
  have hb := h.bd _ hi
  have hl := h.lft
  have hs := h.sum
  refine ⟨fun i hi2 => ?_, by omega, ?_, fun j hj1 hj2 => ?_⟩
  · have := h.bd i hi2
    rw [hT i hi2]
    split
    · rename_i e; rw [e]; omega
    · exact this
  · rw [sumF_set hi hT]; omega
  · have hj : (j + w) % m.hou.length < m.hou.length := Nat.mod_lt _ (by omega)
    rw [hT _ hj]
    by_cases e : j = k
    · subst e
      have := hm hj1
      rw [if_pos rfl]
      omega
    · have h1 := h.full j hj1 (by omega)
      split
      · rename_i e2
        rw [e2] at h1
        rw [e2]
        omega
      · omega
theorem pk_end {m : MktD} {w : Nat} {T : Nat → Int} {left : Int} (hv : VMkt m) (hp : possB m = true) (h : PkI m w (2 * m.hou.length) T left) : truthB m ((List.range m.hou.length).map T) = true := by
  have hlen := hv.len
  have hpos := hv.pos
  have h0 : left = 0 := by
    refine Classical.byContradiction fun hne => ?_
    have hall : ∀ i, i < m.hou.length → T i = (m.hou.getD i default).hi := fun i hi => by
      obtain ⟨j, h1, h2, h3⟩ := round_all (w := w) hpos hlen hi
      have := (h.full j h1 h2).resolve_left hne
      rw [h3] at this
      exact this
    have h2 := (inB_iff.1 hp).2
    rw [hi_sum, ← sumF_congr (f := T) hall] at h2
    have h3 := h.sum
    have h4 := h.lft
    omega
  have hg : ∀ k, k < m.hou.length → ((List.range m.hou.length).map T).getD k 0 = T k := fun k hk => by simp [List.getD_eq_getElem?_getD, hk]
  refine truth_iff.2 ⟨by simp, fun k hk => ?_, ?_⟩
  · rw [hg k hk]
    exact inB_iff.2 (h.bd k hk)
  · rw [left_sum, sumF_congr (g := T) hg]
    have := h.sum
    omega
theorem pk_start {m : MktD} {w : Nat} (hv : VMkt m) (hp : possB m = true) : PkI m w 0 (fun i => (m.hou.getD i default).lo) (m.ex - sLo m.hou m.hou.length) := by
  have h1 := inB_iff.1 hp
  have h2 := s_bd hv m.hou.length (Nat.le_refl _)
  have h3 := hv.ex
  refine ⟨fun i hi => by have := hv.held i hi; exact ⟨Int.le_refl _, this.2.1⟩, by omega, ?_, fun j _ hj => absurd hj (Nat.not_lt_zero _)⟩
  rw [lo_sum]
  omega
attribute [local irreducible] AWP AWL AOp PV LV AWT AWE
theorem word_p (ws : List Int) (i : Nat) (hi : i ≤ 1000) (hl : ws.length ≤ 9223372036854775807) (hw : ∀ x ∈ ws, 0 ≤ x ∧ x ≤ 65535) : PCall Try.prog 83 [.t (kintsT .u16 ws), intA i] (fun r => r = intA (wordN ws i)) := by
  refine acall_of_awp T0 Try.func83 rfl rfl rfl ?_
  unfold wordN
  by_cases h0 : ws.length = 0
  · have d1 : decide ((ws.length : Int) = 0) = true := decide_eq_true (by omega)
    rw [if_pos h0]
    repeat (first | refine awp_seq ?_ | refine awp_region_lit rfl ?_ | refine awp_ret ?_ | refine then_n ?_ | refine then_r ?_ | refine awp_cond_t rfl (by first | rfl | assumption | exact dT (by omega)) ?_ | ((first | (show AWL _ _ _ (⟨_, .move _, _, _, _, _⟩ :: _) _ _ _; refine awl_pw ?wtq (pv_move rfl rfl) rfl rfl ?_) | (show AWL _ _ _ (⟨_, .assign _, _, _, _, _⟩ :: _) _ _ _; refine awl_pw ?wtq (pv_assign rfl rfl) rfl rfl ?_) | (show AWL _ _ _ (⟨_, .binOp .eql _ _ _ _, _, _, _, _⟩ :: _) _ _ _; refine awl_pw ?wtq (pv_eql rfl rfl rfl) rfl rfl ?_) | (show AWL _ _ _ (⟨_, .call ⟨.builtin .len, _, _⟩, _, _, _, _⟩ :: _) _ _ _; refine awl_pw ?wtq (pv_len_t T0 rfl rfl rfl) rfl rfl ?_)); case wtq => exact wtA) | refine awl_nil ?_)
    exact body_p (.cons rfl .nil) rfl
  have d1 : decide ((ws.length : Int) = 0) = false := decide_eq_false (by omega)
  rw [if_neg h0]
  have hrem : ((i : Int)).tmod (ws.length : Int) = ((i % ws.length : Nat) : Int) := rfl
  have hlt : i % ws.length < ws.length := Nat.mod_lt _ (by omega)
  have hx := hw _ (getD_mem (d := (0 : Int)) hlt)
  repeat (first | refine awp_seq ?_ | refine awp_region_lit rfl ?_ | refine awp_skip ?_ | refine awp_ret ?_ | refine then_n ?_ | refine awp_cond_f rfl (by first | rfl | assumption | exact dF (by omega)) ?_ | ((first | (show AWL _ _ _ (⟨_, .move _, _, _, _, _⟩ :: _) _ _ _; refine awl_pw ?wtq (pv_move rfl rfl) rfl rfl ?_) | (show AWL _ _ _ (⟨_, .assign _, _, _, _, _⟩ :: _) _ _ _; refine awl_pw ?wtq (pv_assign rfl rfl) rfl rfl ?_) | (show AWL _ _ _ (⟨_, .load _ _, _, _, _, _⟩ :: _) _ _ _; refine awl_lw ?wtq (lv_elt_sc T0 rfl rfl rfl rfl) rfl rfl rfl ?_) | (show AWL _ _ _ (⟨_, .indexAddr _ _ _, _, _, _, _⟩ :: _) _ _ _; refine awl_pw ?wtq (pv_ix_t T0 rfl rfl rfl rfl (by omega) ixA) rfl rfl ?_) | (show AWL _ _ _ (⟨_, .binOp .rem _ _ _ _, _, _, _, _⟩ :: _) _ _ _; refine awl_pw ?wtq (pv_rem rfl rfl rfl (by omega) (by first | assumption | rfl)) rfl rfl ?_) | (show AWL _ _ _ (⟨_, .binOp .eql _ _ _ _, _, _, _, _⟩ :: _) _ _ _; refine awl_pw ?wtq (pv_eql rfl rfl rfl) rfl rfl ?_) | (show AWL _ _ _ (⟨_, .call ⟨.builtin .len, _, _⟩, _, _, _, _⟩ :: _) _ _ _; refine awl_pw ?wtq (pv_len_t T0 rfl rfl rfl) rfl rfl ?_) | (show AWL _ _ _ (⟨_, .convert 143 _ _, _, _, _, _⟩ :: _) _ _ _; refine awl_pw ?wtq (pv_convert rfl rfl Try.underlying143 Try.underlying3 (by first | assumption | exact wr64 (by omega))) rfl rfl ?_)); case wtq => exact wtA) | refine awl_nil ?_)
  exact body_p (.cons rfl .nil) rfl
section
variable {g2 gt c n i : Nat} {cp cc : Bool} {m : MktD} {T : Nat → Int} {left : Int} {u1 u8 : AV}
theorem ld_12 (hi : i < m.hou.length) (hl : m.hou.length ≤ 6) (hT : 0 ≤ T i ∧ T i ≤ 200) (hh : 0 ≤ (m.hou.getD i default).hi ∧ (m.hou.getD i default).hi ≤ 200) {ops : Array Oper} (h : regF Try.f45 12 = some ops) :
    AWP Try.prog Try.f45.ntmps none (.region 12 ops true) (cutQ (fun s h => s = [(10, intA (min left ((m.hou.getD i default).hi - T i))), (1, u1), (2, .v (ptrV g2)), (5, .v (.slice (some ⟨gt, 0, none⟩) m.hou.length c)), (6, intA left), (8, u8), (9, intA i)] ∧ h = [.cl g2 25 [intA m.ex, .t (housT cp m.hou), .t (consT cc m.con)], .rw (.slice (some ⟨gt, 0, none⟩) m.hou.length c) 3 1 (fRows T m.hou.length)]))
      [(1, u1), (2, .v (ptrV g2)), (5, .v (.slice (some ⟨gt, 0, none⟩) m.hou.length c)), (6, intA left), (8, u8), (9, intA i)] [.cl g2 25 [intA m.ex, .t (housT cp m.hou), .t (consT cc m.con)], .rw (.slice (some ⟨gt, 0, none⟩) m.hou.length c) 3 1 (fRows T m.hou.length)] := by
  cases h
  have r2 := fRows_at (f := T) hi
  have r4 := fRows_len T m.hou.length
  refine awp_par T0 (l := (0 :: 1 :: 2 :: 3 :: 4 :: 5 :: 6 :: 7 :: 8 :: 9 :: 10 :: 11 :: 12 :: 13 :: 14 :: [])) rfl (by kernel_rfl) (by kernel_rfl) ?_
  apply parW_op (ds := [6]) rfl rfl rfl rfl (by kernel_rfl)
  · exact .inl ⟨(wt_none rfl), stepQ_pv (pv_move rfl rfl) rfl rfl⟩
  apply parW_op (ds := [2]) rfl rfl rfl rfl (by kernel_rfl)
  · exact .inl ⟨(wt_none rfl), stepQ_pv (pv_fa T0 rfl rfl rfl (by simp; rfl)) rfl rfl⟩
  apply parW_op (ds := [52]) rfl rfl rfl rfl (by kernel_rfl)
  · exact .inl ⟨(wt_none rfl), stepQ_lv (lv_cl1 T0 rfl rfl rfl rcA raA) rfl rfl⟩
  apply parW_op (ds := [9]) rfl rfl rfl rfl (by kernel_rfl)
  · exact .inl ⟨(wt_none rfl), stepQ_pv (pv_move rfl rfl) rfl rfl⟩
  apply parW_op (ds := [53, 54]) rfl rfl rfl rfl (by kernel_rfl)
  · exact .inl ⟨(wt_none rfl), stepQ_pv (pv_ix_t T0 rfl rfl rfl rfl (by omega) ixA) rfl rfl⟩
  apply parW_op (ds := [55]) rfl rfl rfl rfl (by kernel_rfl)
  · exact .inl ⟨(wt_none rfl), stepQ_pv (pv_fa_elt T0 rfl rfl rfl (by simp; rfl)) rfl rfl⟩
  apply parW_op (ds := [56]) rfl rfl rfl rfl (by kernel_rfl)
  · exact .inl ⟨(wt_none rfl), stepQ_pv (pv_fa_elt T0 rfl rfl rfl (by simp; rfl)) rfl rfl⟩
  apply parW_op (ds := [57]) rfl rfl rfl rfl (by kernel_rfl)
  · exact .inl ⟨(wt_none rfl), stepQ_lv (lv_elt_sc T0 rfl rfl rfl rfl) rfl rfl⟩
  apply parW_op (ds := [5]) rfl rfl rfl rfl (by kernel_rfl)
  · exact .inl ⟨(wt_none rfl), stepQ_pv (pv_move rfl rfl) rfl rfl⟩
  apply parW_op (ds := [9]) rfl rfl rfl rfl (by kernel_rfl)
  · exact .inl ⟨(wt_none rfl), stepQ_pv (pv_move rfl rfl) rfl rfl⟩
  apply parW_op (ds := [59, 60]) rfl rfl rfl rfl (by kernel_rfl)
  · exact .inl ⟨(wt_none rfl), stepQ_pv (pv_ix_own T0 rfl rfl rfl rfl (by omega) ixA) rfl rfl⟩
  apply parW_op (ds := [61]) rfl rfl rfl rfl (by kernel_rfl)
  · exact .inl ⟨(wt_none rfl), stepQ_lv (lv_rp T0 rfl rfl rfl rcA (by first | omega | (simp; omega)) (by omega) (by first | assumption | rfl)) rfl rfl⟩
  apply parW_op (ds := [58, 62]) rfl rfl rfl rfl (by kernel_rfl)
  · exact .inl ⟨(wt_none rfl), stepQ_pv (pv_sub rfl rfl rfl (by first | assumption | exact wr64 (by omega))) rfl rfl⟩
  apply parW_op (ds := [51, 63]) rfl rfl rfl rfl (by kernel_rfl)
  · exact .inl ⟨(wt_none rfl), stepQ_pv (pv_min2 rfl rfl rfl) rfl rfl⟩
  apply parW_op (ds := [64]) rfl rfl rfl rfl (by kernel_rfl)
  · exact .inl ⟨(wt_none rfl), stepQ_pv (pv_assign rfl rfl) rfl rfl⟩
  refine parW_nil ?_
  exact cut_n ⟨rfl, rfl⟩ ssA rcA
end
theorem picked_p (cp cc : Bool) (m : MktD) (ws : List Int) (hv : VMkt m) (hp : possB m = true) (hl : ws.length ≤ 9223372036854775807) (hw : ∀ x ∈ ws, 0 ≤ x ∧ x ≤ 65535) : PCall Try.prog 45 [mktA cp cc m, .t (kintsT .u16 ws)] (fun r => ∃ t, truthB m t = true ∧ r = .t (intsT true t)) := by
  have hlen := hv.len
  have hpos := hv.pos
  have hex := hv.ex
  refine acall_of_awp T0 Try.func45 rfl rfl rfl ?_
  repeat (first | refine awp_seq ?_ | refine awp_region_lit rfl ?_)
  refine awl_hw wtA (st_box rfl rfl raA (by first | assumption | (simp only [cellsA]; rfl)) rfl rfl ?_)
  intro g2
  repeat (first | refine awp_seq ?_ | refine awp_block ?_ | refine awp_region_lit rfl ?_ | ((first | (show AWL _ _ _ (⟨_, .assign _, _, _, _, _⟩ :: _) _ _ _; refine awl_pw ?wtq (pv_assign rfl rfl) rfl rfl ?_) | (show AWL _ _ _ (⟨_, .load _ _, _, _, _, _⟩ :: _) _ _ _; refine awl_lw ?wtq (lv_cl1 T0 rfl rfl rfl rcA raA) rfl rfl rfl ?_) | (show AWL _ _ _ (⟨_, .fieldAddr _ _ _, _, _, _, _⟩ :: _) _ _ _; refine awl_pw ?wtq (pv_fa T0 rfl rfl rfl (by simp; rfl)) rfl rfl ?_)); case wtq => exact wtA) | refine awl_nil ?_)
  refine awp_ghost (ghost_nilrow 3 1) ?_
  refine awp_loop (fun q s h => ∃ (k : Nat) (a : Option Addr) (c : Nat), k ≤ m.hou.length ∧ q = m.hou.length - k ∧ s = [(1, .t (kintsT .u16 ws)), (2, .v (ptrV g2)), (5, .v (.slice a k c)), (6, intA (m.ex - sLo m.hou k)), (7, intA k)] ∧ h = [.cl g2 25 [intA m.ex, .t (housT cp m.hou), .t (consT cc m.con)], .rw (.slice a k c) 3 1 (fRows (fun i => (m.hou.getD i default).lo) k)]) ?_ ⟨0, _, _, Nat.zero_le _, rfl, by rw [show m.ex - sLo m.hou 0 = m.ex from by simp [sLo]], rfl⟩ ssA rcA
  rintro q s h ⟨k, a, c, hk, rfl, rfl, rfl⟩
  have hrl := fRows_len (fun i => (m.hou.getD i default).lo) k
  have hsb := s_bd hv k hk
  by_cases hkt : k < m.hou.length
  · have hh := hv.held k hkt
    have hst : m.ex - sLo m.hou (k + 1) = m.ex - sLo m.hou k - (m.hou.getD k default).lo := by simp only [sLo]; omega
    have hrl2 := fRows_len (fun i => (m.hou.getD i default).lo) (k + 1)
    have hr2 := fRows_at (f := fun i => (m.hou.getD i default).lo) (Nat.lt_succ_self k)
    repeat (first | refine awp_seq ?_ | refine awp_block ?_ | refine awp_region_lit rfl ?_ | refine awp_skip ?_ | refine then_n ?_ | refine awp_cond_t rfl (by first | rfl | assumption | exact dT (by omega)) ?_ | ((first | (show AWL _ _ _ (⟨_, .move _, _, _, _, _⟩ :: _) _ _ _; refine awl_pw ?wtq (pv_move rfl rfl) rfl rfl ?_) | (show AWL _ _ _ (⟨_, .load _ _, _, _, _, _⟩ :: _) _ _ _; refine awl_lw ?wtq (lv_cl1 T0 rfl rfl rfl rcA raA) rfl rfl rfl ?_) | (show AWL _ _ _ (⟨_, .load _ _, _, _, _, _⟩ :: _) _ _ _; refine awl_lw ?wtq (lv_elt_sc T0 rfl rfl rfl rfl) rfl rfl rfl ?_) | (show AWL _ _ _ (⟨_, .fieldAddr _ _ _, _, _, _, _⟩ :: _) _ _ _; refine awl_pw ?wtq (pv_fa T0 rfl rfl rfl (by simp; rfl)) rfl rfl ?_) | (show AWL _ _ _ (⟨_, .fieldAddr _ _ _, _, _, _, _⟩ :: _) _ _ _; refine awl_pw ?wtq (pv_fa_elt T0 rfl rfl rfl (by simp; rfl)) rfl rfl ?_) | (show AWL _ _ _ (⟨_, .indexAddr _ _ _, _, _, _, _⟩ :: _) _ _ _; refine awl_pw ?wtq (pv_ix_t T0 rfl rfl rfl rfl (by omega) ixA) rfl rfl ?_) | (show AWL _ _ _ (⟨_, .binOp .lss _ _ _ _, _, _, _, _⟩ :: _) _ _ _; refine awl_pw ?wtq (pv_lss rfl rfl rfl) rfl rfl ?_) | (show AWL _ _ _ (⟨_, .call ⟨.builtin .len, _, _⟩, _, _, _, _⟩ :: _) _ _ _; refine awl_pw ?wtq (pv_len_t T0 rfl rfl rfl) rfl rfl ?_)); case wtq => exact wtA) | refine awl_nil ?_)
    refine awl_hw wtA (st_bsl T0 rfl rfl rfl rfl rfl rcA rfl rfl rfl rfl (by simp only [List.map_cons, List.map_nil, cellsA]; rfl) ?_)
    intro g29
    skip
    refine awl_hw wtA (st_app T0 rfl rfl rfl rfl rfl rfl rfl rfl rfl rcA rcA rfl rfl hrl (by omega) (fun _ _ => trivial) ?_)
    intro a30 c30 p30
    obtain ⟨ga, rfl⟩ := p30 (Nat.lt_succ_self 0)
    rw [show fRows (fun i => (m.hou.getD i default).lo) k ++ [[AV.v (Value.int IntKind.i64 (m.hou.getD k default).lo)]] = fRows (fun i => (m.hou.getD i default).lo) (k + 1) from (fRows_step _ _).symm]
    repeat (first | refine awp_region_lit rfl ?_ | ((first | (show AWL _ _ _ (⟨_, .move _, _, _, _, _⟩ :: _) _ _ _; refine awl_pw ?wtq (pv_move rfl rfl) rfl rfl ?_) | (show AWL _ _ _ (⟨_, .assign _, _, _, _, _⟩ :: _) _ _ _; refine awl_pw ?wtq (pv_assign rfl rfl) rfl rfl ?_) | (show AWL _ _ _ (⟨_, .load _ _, _, _, _, _⟩ :: _) _ _ _; refine awl_lw ?wtq (lv_rp T0 rfl rfl rfl rcA (by first | omega | (simp; omega)) (by omega) (by first | assumption | rfl)) rfl rfl rfl ?_) | (show AWL _ _ _ (⟨_, .indexAddr _ _ _, _, _, _, _⟩ :: _) _ _ _; refine awl_pw ?wtq (pv_ix_own T0 rfl rfl rfl rfl (by omega) ixA) rfl rfl ?_) | (show AWL _ _ _ (⟨_, .binOp .add _ _ _ _, _, _, _, _⟩ :: _) _ _ _; refine awl_pw ?wtq (pv_add rfl rfl rfl (by first | assumption | exact wr64 (by omega))) rfl rfl ?_) | (show AWL _ _ _ (⟨_, .binOp .sub _ _ _ _, _, _, _, _⟩ :: _) _ _ _; refine awl_pw ?wtq (pv_sub rfl rfl rfl (by first | assumption | exact wr64 (by omega))) rfl rfl ?_)); case wtq => exact wtA) | refine awl_nil ?_)
    rw [← hst]
    refine rnd_n _ _ _ ?_ ⟨k + 1, some ⟨ga, 0, none⟩, c30, hkt, rfl, rfl, rfl⟩ ssA rcA
    omega
  obtain rfl : k = m.hou.length := by omega
  repeat (first | refine awp_seq ?_ | refine awp_block ?_ | refine awp_region_lit rfl ?_ | refine awp_exit ?_ | refine then_n ?_ | refine awp_cond_f rfl (by first | rfl | assumption | exact dF (by omega)) ?_ | ((first | (show AWL _ _ _ (⟨_, .move _, _, _, _, _⟩ :: _) _ _ _; refine awl_pw ?wtq (pv_move rfl rfl) rfl rfl ?_) | (show AWL _ _ _ (⟨_, .assign _, _, _, _, _⟩ :: _) _ _ _; refine awl_pw ?wtq (pv_assign rfl rfl) rfl rfl ?_) | (show AWL _ _ _ (⟨_, .load _ _, _, _, _, _⟩ :: _) _ _ _; refine awl_lw ?wtq (lv_cl1 T0 rfl rfl rfl rcA raA) rfl rfl rfl ?_) | (show AWL _ _ _ (⟨_, .fieldAddr _ _ _, _, _, _, _⟩ :: _) _ _ _; refine awl_pw ?wtq (pv_fa T0 rfl rfl rfl (by simp; rfl)) rfl rfl ?_) | (show AWL _ _ _ (⟨_, .binOp .lss _ _ _ _, _, _, _, _⟩ :: _) _ _ _; refine awl_pw ?wtq (pv_lss rfl rfl rfl) rfl rfl ?_) | (show AWL _ _ _ (⟨_, .call ⟨.builtin .len, _, _⟩, _, _, _, _⟩ :: _) _ _ _; refine awl_pw ?wtq (pv_len_t T0 rfl rfl rfl) rfl rfl ?_)); case wtq => exact wtA) | refine awl_nil ?_)
  refine awp_open (v := .slice a m.hou.length c) (E := 3) (sz := 1) (rows := fRows (fun i => (m.hou.getD i default).lo) m.hou.length) rcA fun ad cap he hg => ?_
  obtain ⟨gt, rfl⟩ := hg (by omega)
  rw [hrl] at he
  cases he
  obtain ⟨w9, hw9⟩ : ∃ w9 : Nat, wordN ws 9 = w9 := ⟨(wordN ws 9).toNat, by have := (word_bd hw 9).1; omega⟩
  have hw9b := (word_bd hw 9).2
  rw [hw9] at hw9b
  have hwp := word_p ws 9 (by omega) hl hw
  rw [hw9] at hwp
  refine awp_loop (fun q s h => ∃ (k : Nat) (T : Nat → Int) (left : Int), k ≤ 2 * m.hou.length ∧ q = 2 * m.hou.length - k ∧ PkI m w9 k T left ∧ s = [(1, .t (kintsT .u16 ws)), (2, .v (ptrV g2)), (5, .v (.slice (some ⟨gt, 0, none⟩) m.hou.length c)), (6, intA left), (8, intA k)] ∧ h = [.cl g2 25 [intA m.ex, .t (housT cp m.hou), .t (consT cc m.con)], .rw (.slice (some ⟨gt, 0, none⟩) m.hou.length c) 3 1 (fRows T m.hou.length)]) ?_ ⟨0, _, _, Nat.zero_le _, rfl, pk_start hv hp, rfl, rfl⟩ ssA rcA
  rintro q s h ⟨k, T, left, hk2, rfl, hI, rfl, rfl⟩
  have hmul : 2 * (m.hou.length : Int) = ((2 * m.hou.length : Nat) : Int) := by omega
  by_cases hk : k < 2 * m.hou.length
  case neg =>
    obtain rfl : k = 2 * m.hou.length := by omega
    have d1 : decide (((2 * m.hou.length : Nat) : Int) < 2 * (m.hou.length : Int)) = false := decide_eq_false (by omega)
    repeat (first | refine awp_seq ?_ | refine awp_region_lit rfl ?_ | refine awp_exit ?_ | refine awp_ret ?_ | refine then_n ?_ | refine awp_cond_f rfl (by first | rfl | assumption | exact dF (by omega)) ?_ | ((first | (show AWL _ _ _ (⟨_, .move _, _, _, _, _⟩ :: _) _ _ _; refine awl_pw ?wtq (pv_move rfl rfl) rfl rfl ?_) | (show AWL _ _ _ (⟨_, .assign _, _, _, _, _⟩ :: _) _ _ _; refine awl_pw ?wtq (pv_assign rfl rfl) rfl rfl ?_) | (show AWL _ _ _ (⟨_, .binOp .mul _ _ _ _, _, _, _, _⟩ :: _) _ _ _; refine awl_pw ?wtq (pv_mul rfl rfl rfl (by first | assumption | exact wr64 (by omega))) rfl rfl ?_) | (show AWL _ _ _ (⟨_, .binOp .lss _ _ _ _, _, _, _, _⟩ :: _) _ _ _; refine awl_pw ?wtq (pv_lss rfl rfl rfl) rfl rfl ?_) | (show AWL _ _ _ (⟨_, .call ⟨.builtin .len, _, _⟩, _, _, _, _⟩ :: _) _ _ _; refine awl_pw ?wtq (pv_len_v T0 rfl rfl rfl) rfl rfl ?_)); case wtq => exact wtA) | refine awl_nil ?_)
    refine bodyQ_ghost (ghost_freeze (E := 3) (sz := 1) (n := m.hou.length) (rows := fRows T m.hou.length) (d := 4) (fun q => [.sc (.int .i64 (((List.range m.hou.length).map T).getD q 0))]) rcA rfl (fRows_len _ _) (fRows_tree rfl)) ?_
    refine body_p (.cons rfl .nil) ⟨(List.range m.hou.length).map T, pk_end hv hp hI, ?_⟩
    unfold intsT
    simp
    rfl
  have d1 : decide ((k : Int) < 2 * (m.hou.length : Int)) = true := decide_eq_true (by omega)
  obtain ⟨i, hi⟩ : ∃ i, (k + w9) % m.hou.length = i := ⟨_, rfl⟩
  have hi2 : i < m.hou.length := by rw [← hi]; exact Nat.mod_lt _ (by omega)
  have hrem : ((k : Int) + (w9 : Int)).tmod (m.hou.length : Int) = (i : Int) := by
    rw [← hi]
    rfl
  have hb := hI.bd i hi2
  have hh := hv.held i hi2
  have hlf := hI.lft
  have f1 : ∀ x, (fRows T m.hou.length).set i (spA ((fRows T m.hou.length).getD i []) 0 [intA (T i + x)]) = fRows (fun q => if q = i then T i + x else T q) m.hou.length := fun x => fRows_set (f := T) (g := fun q => if q = i then T i + x else T q) (v := T i + x) hi2 (fun _ _ => rfl)
  have r2 := fRows_at (f := T) hi2
  have r4 := fRows_len T m.hou.length
  repeat (first | refine awp_seq ?_ | refine awp_block ?_ | refine awp_region_lit rfl ?_ | refine awp_skip ?_ | refine then_n ?_ | refine awp_cond_t rfl (by first | rfl | assumption | exact dT (by omega)) ?_ | ((first | (show AWL _ _ _ (⟨_, .move _, _, _, _, _⟩ :: _) _ _ _; refine awl_pw ?wtq (pv_move rfl rfl) rfl rfl ?_) | (show AWL _ _ _ (⟨_, .binOp .mul _ _ _ _, _, _, _, _⟩ :: _) _ _ _; refine awl_pw ?wtq (pv_mul rfl rfl rfl (by first | assumption | exact wr64 (by omega))) rfl rfl ?_) | (show AWL _ _ _ (⟨_, .binOp .lss _ _ _ _, _, _, _, _⟩ :: _) _ _ _; refine awl_pw ?wtq (pv_lss rfl rfl rfl) rfl rfl ?_) | (show AWL _ _ _ (⟨_, .call ⟨.builtin .len, _, _⟩, _, _, _, _⟩ :: _) _ _ _; refine awl_pw ?wtq (pv_len_v T0 rfl rfl rfl) rfl rfl ?_)); case wtq => exact wtA) | refine awl_nil ?_)
  refine awl_hw wtA (st_call T0 (hwp) rfl rfl rfl rfl (by first | exact callee_lit | exact callee_v | exact callee_fn | assumption) rcA raA rfl ?_)
  rintro _ rfl
  repeat (first | refine awp_seq ?_ | ((first | (show AWL _ _ _ (⟨_, .move _, _, _, _, _⟩ :: _) _ _ _; refine awl_pw ?wtq (pv_move rfl rfl) rfl rfl ?_) | (show AWL _ _ _ (⟨_, .assign _, _, _, _, _⟩ :: _) _ _ _; refine awl_pw ?wtq (pv_assign rfl rfl) rfl rfl ?_) | (show AWL _ _ _ (⟨_, .binOp .add _ _ _ _, _, _, _, _⟩ :: _) _ _ _; refine awl_pw ?wtq (pv_add rfl rfl rfl (by first | assumption | exact wr64 (by omega))) rfl rfl ?_) | (show AWL _ _ _ (⟨_, .binOp .rem _ _ _ _, _, _, _, _⟩ :: _) _ _ _; refine awl_pw ?wtq (pv_rem rfl rfl rfl (by omega) (by first | assumption | rfl)) rfl rfl ?_) | (show AWL _ _ _ (⟨_, .call ⟨.builtin .len, _, _⟩, _, _, _, _⟩ :: _) _ _ _; refine awl_pw ?wtq (pv_len_v T0 rfl rfl rfl) rfl rfl ?_)); case wtq => exact wtA) | refine awl_nil ?_)
  refine awp_cut _ (awp_weak ssA rcA (ld_12 (g2 := g2) (gt := gt) (c := c) (i := i) (cp := cp) (cc := cc) (m := m) (T := T) (left := left) (u1 := .t (kintsT .u16 ws)) (u8 := intA k) hi2 hlen (by omega) (by omega) rfl)) ?_
  rintro s h ⟨rfl, rfl⟩
  have hst := fun x hx hm => pk_step (T' := fun q => if q = i then T i + x else T q) (x := x) hI hpos hx hm (fun q _ => by rw [hi])
  rw [hi] at hst
  generalize hmn : min left ((m.hou.getD i default).hi - T i) = mn at *
  by_cases hkn : k < m.hou.length
  · have d2 : decide ((k : Int) < (m.hou.length : Int)) = true := decide_eq_true (by omega)
    by_cases hm0 : 0 < mn
    · have d3 := decide_eq_true hm0
      have hwk := word_p ws k (by omega) hl hw
      have hwb := word_bd hw k
      have t1 : 0 ≤ (wordN ws k).tmod (mn + 1) := Int.tmod_nonneg _ hwb.1
      have t2 : (wordN ws k).tmod (mn + 1) < mn + 1 := Int.tmod_lt_of_pos _ (by omega)
      have hI2 := hst ((wordN ws k).tmod (mn + 1)) (by omega) (fun h => by omega)
      have ff := f1 ((wordN ws k).tmod (mn + 1))
      repeat (first | refine awp_seq ?_ | refine awp_region_lit rfl ?_ | refine then_n ?_ | refine awp_cond_t rfl (by first | rfl | assumption | exact dT (by omega)) ?_ | ((first | (show AWL _ _ _ (⟨_, .move _, _, _, _, _⟩ :: _) _ _ _; refine awl_pw ?wtq (pv_move rfl rfl) rfl rfl ?_) | (show AWL _ _ _ (⟨_, .assign _, _, _, _, _⟩ :: _) _ _ _; refine awl_pw ?wtq (pv_assign rfl rfl) rfl rfl ?_) | (show AWL _ _ _ (⟨_, .binOp .lss _ _ _ _, _, _, _, _⟩ :: _) _ _ _; refine awl_pw ?wtq (pv_lss rfl rfl rfl) rfl rfl ?_) | (show AWL _ _ _ (⟨_, .binOp .gtr _ _ _ _, _, _, _, _⟩ :: _) _ _ _; refine awl_pw ?wtq (pv_gtr rfl rfl rfl) rfl rfl ?_) | (show AWL _ _ _ (⟨_, .call ⟨.builtin .len, _, _⟩, _, _, _, _⟩ :: _) _ _ _; refine awl_pw ?wtq (pv_len_v T0 rfl rfl rfl) rfl rfl ?_) | (show AWL _ _ _ (⟨_, .pick _ _ _, _, _, _, _⟩ :: _) _ _ _; refine awl_pw ?wtq (pv_pick_t rfl rfl tfA rfl) rfl rfl ?_)); case wtq => exact wtA) | refine awl_nil ?_)
      refine awl_hw wtA (st_call T0 (hwk) rfl rfl rfl rfl (by first | exact callee_lit | exact callee_v | exact callee_fn | assumption) rcA raA rfl ?_)
      rintro _ rfl
      repeat (first | refine awp_seq ?_ | refine awp_region_lit rfl ?_ | ((first | (show AWL _ _ _ (⟨_, .move _, _, _, _, _⟩ :: _) _ _ _; refine awl_pw ?wtq (pv_move rfl rfl) rfl rfl ?_) | (show AWL _ _ _ (⟨_, .assign _, _, _, _, _⟩ :: _) _ _ _; refine awl_pw ?wtq (pv_assign rfl rfl) rfl rfl ?_) | (show AWL _ _ _ (⟨_, .load _ _, _, _, _, _⟩ :: _) _ _ _; refine awl_lw ?wtq (lv_rp T0 rfl rfl rfl rcA (by first | omega | (simp; omega)) (by omega) (by first | assumption | rfl)) rfl rfl rfl ?_) | (show AWL _ _ _ (⟨_, .indexAddr _ _ _, _, _, _, _⟩ :: _) _ _ _; refine awl_pw ?wtq (pv_ix_own T0 rfl rfl rfl rfl (by omega) ixA) rfl rfl ?_) | (show AWL _ _ _ (⟨_, .binOp .add _ _ _ _, _, _, _, _⟩ :: _) _ _ _; refine awl_pw ?wtq (pv_add rfl rfl rfl (by first | assumption | exact wr64 (by omega))) rfl rfl ?_) | (show AWL _ _ _ (⟨_, .binOp .rem _ _ _ _, _, _, _, _⟩ :: _) _ _ _; refine awl_pw ?wtq (pv_rem rfl rfl rfl (by omega) (by first | assumption | rfl)) rfl rfl ?_)); case wtq => exact wtA) | refine awl_nil ?_)
      refine awl_hw wtA (aop_store_rp T0 rfl rfl rfl rfl rfl rfl rfl rfl rcA (by first | omega | (simp; omega)) (by omega) rfl trivial ?_)
      simp only [cellsA]
      rw [ff]
      repeat (first | refine awp_region_lit rfl ?_ | ((first | (show AWL _ _ _ (⟨_, .move _, _, _, _, _⟩ :: _) _ _ _; refine awl_pw ?wtq (pv_move rfl rfl) rfl rfl ?_) | (show AWL _ _ _ (⟨_, .assign _, _, _, _, _⟩ :: _) _ _ _; refine awl_pw ?wtq (pv_assign rfl rfl) rfl rfl ?_) | (show AWL _ _ _ (⟨_, .binOp .add _ _ _ _, _, _, _, _⟩ :: _) _ _ _; refine awl_pw ?wtq (pv_add rfl rfl rfl (by first | assumption | exact wr64 (by omega))) rfl rfl ?_) | (show AWL _ _ _ (⟨_, .binOp .sub _ _ _ _, _, _, _, _⟩ :: _) _ _ _; refine awl_pw ?wtq (pv_sub rfl rfl rfl (by first | assumption | exact wr64 (by omega))) rfl rfl ?_)); case wtq => exact wtA) | refine awl_nil ?_)
      refine rnd_n _ _ _ ?_ ⟨k + 1, _, _, hk, rfl, hI2, rfl, rfl⟩ ssA rcA
      omega
    · have d3 := decide_eq_false hm0
      have hI2 := hst mn (by omega) (fun h => by omega)
      have ff := f1 mn
      repeat (first | refine awp_seq ?_ | refine awp_region_lit rfl ?_ | refine awp_skip ?_ | refine then_n ?_ | refine awp_cond_f rfl (by first | rfl | assumption | exact dF (by omega)) ?_ | ((first | (show AWL _ _ _ (⟨_, .move _, _, _, _, _⟩ :: _) _ _ _; refine awl_pw ?wtq (pv_move rfl rfl) rfl rfl ?_) | (show AWL _ _ _ (⟨_, .assign _, _, _, _, _⟩ :: _) _ _ _; refine awl_pw ?wtq (pv_assign rfl rfl) rfl rfl ?_) | (show AWL _ _ _ (⟨_, .load _ _, _, _, _, _⟩ :: _) _ _ _; refine awl_lw ?wtq (lv_rp T0 rfl rfl rfl rcA (by first | omega | (simp; omega)) (by omega) (by first | assumption | rfl)) rfl rfl rfl ?_) | (show AWL _ _ _ (⟨_, .indexAddr _ _ _, _, _, _, _⟩ :: _) _ _ _; refine awl_pw ?wtq (pv_ix_own T0 rfl rfl rfl rfl (by omega) ixA) rfl rfl ?_) | (show AWL _ _ _ (⟨_, .binOp .add _ _ _ _, _, _, _, _⟩ :: _) _ _ _; refine awl_pw ?wtq (pv_add rfl rfl rfl (by first | assumption | exact wr64 (by omega))) rfl rfl ?_) | (show AWL _ _ _ (⟨_, .binOp .lss _ _ _ _, _, _, _, _⟩ :: _) _ _ _; refine awl_pw ?wtq (pv_lss rfl rfl rfl) rfl rfl ?_) | (show AWL _ _ _ (⟨_, .binOp .gtr _ _ _ _, _, _, _, _⟩ :: _) _ _ _; refine awl_pw ?wtq (pv_gtr rfl rfl rfl) rfl rfl ?_) | (show AWL _ _ _ (⟨_, .call ⟨.builtin .len, _, _⟩, _, _, _, _⟩ :: _) _ _ _; refine awl_pw ?wtq (pv_len_v T0 rfl rfl rfl) rfl rfl ?_) | (show AWL _ _ _ (⟨_, .pick _ _ _, _, _, _, _⟩ :: _) _ _ _; refine awl_pw ?wtq (pv_pick_t rfl rfl tfA rfl) rfl rfl ?_)); case wtq => exact wtA) | refine awl_nil ?_)
      refine awl_hw wtA (aop_store_rp T0 rfl rfl rfl rfl rfl rfl rfl rfl rcA (by first | omega | (simp; omega)) (by omega) rfl trivial ?_)
      simp only [cellsA]
      rw [ff]
      repeat (first | refine awp_region_lit rfl ?_ | ((first | (show AWL _ _ _ (⟨_, .move _, _, _, _, _⟩ :: _) _ _ _; refine awl_pw ?wtq (pv_move rfl rfl) rfl rfl ?_) | (show AWL _ _ _ (⟨_, .assign _, _, _, _, _⟩ :: _) _ _ _; refine awl_pw ?wtq (pv_assign rfl rfl) rfl rfl ?_) | (show AWL _ _ _ (⟨_, .binOp .add _ _ _ _, _, _, _, _⟩ :: _) _ _ _; refine awl_pw ?wtq (pv_add rfl rfl rfl (by first | assumption | exact wr64 (by omega))) rfl rfl ?_) | (show AWL _ _ _ (⟨_, .binOp .sub _ _ _ _, _, _, _, _⟩ :: _) _ _ _; refine awl_pw ?wtq (pv_sub rfl rfl rfl (by first | assumption | exact wr64 (by omega))) rfl rfl ?_)); case wtq => exact wtA) | refine awl_nil ?_)
      refine rnd_n _ _ _ ?_ ⟨k + 1, _, _, hk, rfl, hI2, rfl, rfl⟩ ssA rcA
      omega
  · have d2 : decide ((k : Int) < (m.hou.length : Int)) = false := decide_eq_false (by omega)
    have hI2 := hst mn (by omega) (fun h => rfl)
    have ff := f1 mn
    repeat (first | refine awp_seq ?_ | refine awp_region_lit rfl ?_ | refine awp_skip ?_ | refine then_n ?_ | refine awp_cond_f rfl (by first | rfl | assumption | exact dF (by omega)) ?_ | ((first | (show AWL _ _ _ (⟨_, .move _, _, _, _, _⟩ :: _) _ _ _; refine awl_pw ?wtq (pv_move rfl rfl) rfl rfl ?_) | (show AWL _ _ _ (⟨_, .assign _, _, _, _, _⟩ :: _) _ _ _; refine awl_pw ?wtq (pv_assign rfl rfl) rfl rfl ?_) | (show AWL _ _ _ (⟨_, .load _ _, _, _, _, _⟩ :: _) _ _ _; refine awl_lw ?wtq (lv_rp T0 rfl rfl rfl rcA (by first | omega | (simp; omega)) (by omega) (by first | assumption | rfl)) rfl rfl rfl ?_) | (show AWL _ _ _ (⟨_, .indexAddr _ _ _, _, _, _, _⟩ :: _) _ _ _; refine awl_pw ?wtq (pv_ix_own T0 rfl rfl rfl rfl (by omega) ixA) rfl rfl ?_) | (show AWL _ _ _ (⟨_, .binOp .add _ _ _ _, _, _, _, _⟩ :: _) _ _ _; refine awl_pw ?wtq (pv_add rfl rfl rfl (by first | assumption | exact wr64 (by omega))) rfl rfl ?_) | (show AWL _ _ _ (⟨_, .binOp .lss _ _ _ _, _, _, _, _⟩ :: _) _ _ _; refine awl_pw ?wtq (pv_lss rfl rfl rfl) rfl rfl ?_) | (show AWL _ _ _ (⟨_, .call ⟨.builtin .len, _, _⟩, _, _, _, _⟩ :: _) _ _ _; refine awl_pw ?wtq (pv_len_v T0 rfl rfl rfl) rfl rfl ?_) | (show AWL _ _ _ (⟨_, .pick _ _ _, _, _, _, _⟩ :: _) _ _ _; refine awl_pw ?wtq (pv_pick_f rfl rfl tfA rfl) rfl rfl ?_)); case wtq => exact wtA) | refine awl_sk (wf_some rfl rfl rfl rfl tfA) rfl rfl ?_ | refine awl_nil ?_)
    refine awl_hw wtA (aop_store_rp T0 rfl rfl rfl rfl rfl rfl rfl rfl rcA (by first | omega | (simp; omega)) (by omega) rfl trivial ?_)
    simp only [cellsA]
    rw [ff]
    repeat (first | refine awp_region_lit rfl ?_ | ((first | (show AWL _ _ _ (⟨_, .move _, _, _, _, _⟩ :: _) _ _ _; refine awl_pw ?wtq (pv_move rfl rfl) rfl rfl ?_) | (show AWL _ _ _ (⟨_, .assign _, _, _, _, _⟩ :: _) _ _ _; refine awl_pw ?wtq (pv_assign rfl rfl) rfl rfl ?_) | (show AWL _ _ _ (⟨_, .binOp .add _ _ _ _, _, _, _, _⟩ :: _) _ _ _; refine awl_pw ?wtq (pv_add rfl rfl rfl (by first | assumption | exact wr64 (by omega))) rfl rfl ?_) | (show AWL _ _ _ (⟨_, .binOp .sub _ _ _ _, _, _, _, _⟩ :: _) _ _ _; refine awl_pw ?wtq (pv_sub rfl rfl rfl (by first | assumption | exact wr64 (by omega))) rfl rfl ?_)); case wtq => exact wtA) | refine awl_nil ?_)
    refine rnd_n _ _ _ ?_ ⟨k + 1, _, _, hk, rfl, hI2, rfl, rfl⟩ ssA rcA
    omega
end Go.Proofs.Ytallicfckbdeaaa
