/- Whether sales are a settlement: the walk of ProveSettled (Try.func43), whole. -/
import Derived.Test.YtallicfckbdeaaaJa
namespace Go.Proofs.Ytallicfckbdeaaa
open Go Go.RowKit Go.Tl
set_option linter.unusedVariables false
set_option linter.unusedSimpArgs false
set_option maxRecDepth 100000
set_option maxHeartbeats 4000000
attribute [local irreducible] AWP AWL AOp PV LV AWT AWE
theorem set_no {m : MktD} {t : List Int} {l : List SalC} {cost : Int} {k : Nat} (hk : k < l.length) (h : ¬ OkS m t l k) : setB m t l cost = false := by
  cases c : setB m t l cost
  · rfl
  · exact absurd ((setB_iff.1 c).1.ok k hk) h
theorem provesettled_p (cp cc ct cl : Bool) (m : MktD) (t : List Int) (l : List SalC) (cost : Int) (hl : m.hou.length ≤ 1000) (hc : m.con.length ≤ 1000) (ht : t.length ≤ 1000) (hll : l.length ≤ 1000) : PCall Try.prog 43 [mktA cp cc m, .t (intsT ct t), .t (salcT cl l), intA cost] (fun r => r = boolA (provesB m t l cost)) := by
  refine acall_of_awp T0 Try.func43 rfl rfl rfl ?_
  unfold provesB
  by_cases h0 : (needsR m t).2.2 = 0
  case neg =>
    have d1 : decide ((needsR m t).2.2 ≠ 0) = true := decide_eq_true h0
    rw [decide_eq_false h0]
    repeat (first | refine awp_seq ?_ | refine awp_region_lit rfl ?_)
    refine awl_hw wtA (st_box rfl rfl raA (by first | assumption | (simp only [cellsA]; rfl)) rfl rfl ?_)
    intro g4
    repeat (first | refine awp_seq ?_ | refine awp_region_lit rfl ?_ | ((first | (show AWL _ _ _ (⟨_, .move _, _, _, _, _⟩ :: _) _ _ _; refine awl_pw ?wtq (pv_move rfl rfl) rfl rfl ?_) | (show AWL _ _ _ (⟨_, .assign _, _, _, _, _⟩ :: _) _ _ _; refine awl_pw ?wtq (pv_assign rfl rfl) rfl rfl ?_) | (show AWL _ _ _ (⟨_, .load _ _, _, _, _, _⟩ :: _) _ _ _; refine awl_lw ?wtq (lv_cla T0 rfl rfl rfl rcA rfl) rfl rfl rfl ?_)); case wtq => exact wtA) | refine awl_nil ?_)
    refine awl_hw wtA (st_call T0 (Needs_p cp cc ct m t hl hc ht) rfl rfl rfl rfl (by first | exact callee_lit | exact callee_v | exact callee_fn | assumption) rcA raA rfl ?_)
    rintro _ rfl
    repeat (first | refine awp_seq ?_ | refine awp_region_lit rfl ?_ | refine awp_ret ?_ | refine then_n ?_ | refine then_r ?_ | refine awp_cond_t rfl (by first | rfl | assumption | exact dT (by omega)) ?_ | ((first | (show AWL _ _ _ (⟨_, .move _, _, _, _, _⟩ :: _) _ _ _; refine awl_pw ?wtq (pv_move rfl rfl) rfl rfl ?_) | (show AWL _ _ _ (⟨_, .assign _, _, _, _, _⟩ :: _) _ _ _; refine awl_pw ?wtq (pv_assign rfl rfl) rfl rfl ?_) | (show AWL _ _ _ (⟨_, .binOp .neq _ _ _ _, _, _, _, _⟩ :: _) _ _ _; refine awl_pw ?wtq (pv_neq rfl rfl rfl) rfl rfl ?_) | (show AWL _ _ _ (⟨_, .extract _ _, _, _, _, _⟩ :: _) _ _ _; refine awl_pw ?wtq (pv_extract rfl rfl rfl) rfl rfl ?_)); case wtq => exact wtA) | refine awl_nil ?_)
    exact body_p (.cons rfl .nil) rfl
  obtain ⟨hf, htr⟩ := needs_ok h0
  have hv := vmkt hf
  have hlen := hv.len
  have hpos := hv.pos
  rw [decide_eq_true h0, Bool.true_and]
  have l1 : ((needL m t m.hou.length).map intRow).length = m.hou.length := by rw [List.length_map, needL_len]
  have l2 : ((spareL m t m.hou.length).map intRow).length = m.hou.length := by rw [List.length_map, spareL_len]
  have t1 := intRows_tree (needL m t m.hou.length)
  rw [needL_len] at t1
  repeat (first | refine awp_seq ?_ | refine awp_region_lit rfl ?_)
  refine awl_hw wtA (st_box rfl rfl raA (by first | assumption | (simp only [cellsA]; rfl)) rfl rfl ?_)
  intro g4
  repeat (first | refine awp_seq ?_ | refine awp_region_lit rfl ?_ | ((first | (show AWL _ _ _ (⟨_, .move _, _, _, _, _⟩ :: _) _ _ _; refine awl_pw ?wtq (pv_move rfl rfl) rfl rfl ?_) | (show AWL _ _ _ (⟨_, .assign _, _, _, _, _⟩ :: _) _ _ _; refine awl_pw ?wtq (pv_assign rfl rfl) rfl rfl ?_) | (show AWL _ _ _ (⟨_, .load _ _, _, _, _, _⟩ :: _) _ _ _; refine awl_lw ?wtq (lv_cla T0 rfl rfl rfl rcA rfl) rfl rfl rfl ?_)); case wtq => exact wtA) | refine awl_nil ?_)
  refine awl_hw wtA (st_acall T0 (Needs_o cp cc ct m t hf hl hc htr) rfl rfl rfl rfl (by first | exact callee_lit | exact callee_v | exact callee_fn | assumption) rcA raA rfl (by first | ((repeat' (first | exact SubH.refl _ | apply SubH.cons | exact Pick.here | apply Pick.there)); all_goals fail) | fail) (fun _ _ => trivial) ?_)
  rintro r h' ⟨a1, c1, a2, c2, rfl, rfl⟩
  simp only [List.cons_append, List.nil_append]
  repeat (first | refine awp_seq ?_ | refine awp_region_lit rfl ?_ | refine awp_skip ?_ | refine then_n ?_ | refine awp_cond_f rfl (by first | rfl | assumption | exact dF (by omega)) ?_ | ((first | (show AWL _ _ _ (⟨_, .move _, _, _, _, _⟩ :: _) _ _ _; refine awl_pw ?wtq (pv_move rfl rfl) rfl rfl ?_) | (show AWL _ _ _ (⟨_, .assign _, _, _, _, _⟩ :: _) _ _ _; refine awl_pw ?wtq (pv_assign rfl rfl) rfl rfl ?_) | (show AWL _ _ _ (⟨_, .binOp .neq _ _ _ _, _, _, _, _⟩ :: _) _ _ _; refine awl_pw ?wtq (pv_neq rfl rfl rfl) rfl rfl ?_) | (show AWL _ _ _ (⟨_, .extract _ _, _, _, _, _⟩ :: _) _ _ _; refine awl_pw ?wtq (pv_extract rfl rfl rfl) rfl rfl ?_)); case wtq => exact wtA) | refine awl_nil ?_)
  refine awl_hw wtA (st_alloc T0 rfl rfl rfl rfl scA ?_)
  intro g12
  skip
  refine awl_hw wtA (st_alloc T0 rfl rfl rfl rfl scA ?_)
  intro g13
  repeat (first | refine awp_seq ?_ | refine awp_region_lit rfl ?_ | ((first | (show AWL _ _ _ (⟨_, .move _, _, _, _, _⟩ :: _) _ _ _; refine awl_pw ?wtq (pv_move rfl rfl) rfl rfl ?_) | (show AWL _ _ _ (⟨_, .slice _ _ _ _ _, _, _, _, _⟩ :: _) _ _ _; refine awl_pw ?wtq (pv_slice_arr T0 rfl rfl rfl) rfl rfl ?_)); case wtq => exact wtA) | refine awl_nil ?_)
  refine awl_ghost (ghost_freeze (E := 3) (sz := 1) (n := m.hou.length) (rows := (needL m t m.hou.length).map intRow) (d := 27) (fun q => [.sc (.int .i64 ((needL m t m.hou.length).getD q 0))]) rcA rfl l1 t1) ?_
  have hcopy := copy6 (needL_len m t m.hou.length) hlen
  rw [arrI_congr (g := cutF (ndK m t l 0) m.hou.length) (fun q _ => by
    unfold cutF
    by_cases c : q < m.hou.length
    · rw [if_pos c, if_pos c]; exact needL_at c
    · rw [if_neg c, if_neg c])] at hcopy
  skip
  refine awl_hw wtA (st_copy T0 (hcopy) rfl rfl rfl rfl rfl rfl rcA rfl (by intro k hk u hu; simp at hu; subst hu; rfl) trivial ?_)
  repeat (first | refine awp_seq ?_ | refine awp_block ?_ | refine awp_region_lit rfl ?_ | ((first | (show AWL _ _ _ (⟨_, .move _, _, _, _, _⟩ :: _) _ _ _; refine awl_pw ?wtq (pv_move rfl rfl) rfl rfl ?_) | (show AWL _ _ _ (⟨_, .assign _, _, _, _, _⟩ :: _) _ _ _; refine awl_pw ?wtq (pv_assign rfl rfl) rfl rfl ?_) | (show AWL _ _ _ (⟨_, .call ⟨.builtin .len, _, _⟩, _, _, _, _⟩ :: _) _ _ _; refine awl_pw ?wtq (pv_len_t T0 rfl rfl rfl) rfl rfl ?_)); case wtq => exact wtA) | refine awl_nil ?_)
  refine awp_open (v := .slice a2 m.hou.length c2) (E := 3) (sz := 1) (rows := (spareL m t m.hou.length).map intRow) rcA fun ad cap he hg => ?_
  obtain ⟨gs, rfl⟩ := hg (by omega)
  rw [l2] at he
  cases he
  rw [spareL_rows]
  refine awp_loop (fun q s h => ∃ (k : Nat), k ≤ l.length ∧ q = l.length - k ∧ (∀ j, j < k → OkS m t l j) ∧ s = [(3, intA cost), (4, .v (ptrV g4)), (10, .v (.slice (some ⟨gs, 0, none⟩) m.hou.length c2)), (12, .v (ptrV g12)), (13, .v (ptrV g13)), (14, intA (coK m l k)), (29, .t (salcT cl l)), (30, intA l.length), (31, intA k)] ∧ h = [mkE g4 cp cc m, .rw (.slice (some ⟨gs, 0, none⟩) m.hou.length c2) 3 1 (fRows (spK m t l k) m.hou.length), .cl g12 127 (arrI (cutF (ndK m t l k) m.hou.length) 6), .cl g13 127 (arrI (fun _ => 0) 6)]) ?_ ⟨0, Nat.zero_le _, rfl, (fun j hj => absurd hj (Nat.not_lt_zero _)), rfl, rfl⟩ ssA rcA
  rintro q s h ⟨k, hk, rfl, hok, rfl, rfl⟩
  have hco := co_bd hv htr k hok
  by_cases hkt : k < l.length
  case neg =>
    obtain rfl : k = l.length := by omega
    have hE : setB m t l cost = (eq6 (cutF (ndK m t l l.length) m.hou.length) (fun _ => 0) && decide (coK m l l.length ≤ cost)) := by
      cases c : eq6 (cutF (ndK m t l l.length) m.hou.length) (fun _ => 0) && decide (coK m l l.length ≤ cost)
      · cases c2 : setB m t l cost
        · rfl
        · obtain ⟨h1, h2⟩ := setB_iff.1 c2
          have : eq6 (cutF (ndK m t l l.length) m.hou.length) (fun _ => 0) = true := eq6_iff.2 fun q _ => by
            unfold cutF
            split
            · exact h1.nd q (by assumption)
            · rfl
          rw [this, decide_eq_true h2] at c
          cases c
      · rw [Bool.and_eq_true] at c
        refine setB_iff.2 ⟨⟨hok, fun i hi => ?_⟩, of_decide_eq_true c.2⟩
        have := eq6_iff.1 c.1 i (by omega)
        unfold cutF at this
        rw [if_pos hi] at this
        exact this
    rw [hE]
    repeat (first | refine awp_seq ?_ | refine awp_region_lit rfl ?_ | refine awp_exit ?_ | refine awp_cond_f rfl (by first | rfl | assumption | exact dF (by omega)) ?_ | ((first | (show AWL _ _ _ (⟨_, .load _ _, _, _, _, _⟩ :: _) _ _ _; refine awl_lw ?wtq (lv_cla T0 rfl rfl rfl rcA rfl) rfl rfl rfl ?_) | (show AWL _ _ _ (⟨_, .binOp .lss _ _ _ _, _, _, _, _⟩ :: _) _ _ _; refine awl_pw ?wtq (pv_lss rfl rfl rfl) rfl rfl ?_)); case wtq => exact wtA) | refine awl_nil ?_)
    refine awl_pw (wt_none rfl) (pv_eql_arr (d := cutF (ndK m t l l.length) m.hou.length) (e := fun _ => 0) rfl rfl rfl) rfl rfl ?_
    cases e6 : eq6 (cutF (ndK m t l l.length) m.hou.length) (fun _ => 0)
    · repeat (first | refine awp_ret ?_ | ((first | (show AWL _ _ _ (⟨_, .move _, _, _, _, _⟩ :: _) _ _ _; refine awl_pw ?wtq (pv_move rfl rfl) rfl rfl ?_) | (show AWL _ _ _ (⟨_, .assign _, _, _, _, _⟩ :: _) _ _ _; refine awl_pw ?wtq (pv_assign rfl rfl) rfl rfl ?_) | (show AWL _ _ _ (⟨_, .pick _ _ _, _, _, _, _⟩ :: _) _ _ _; refine awl_pw ?wtq (pv_pick_f rfl rfl tfA rfl) rfl rfl ?_)); case wtq => exact wtA) | refine awl_sk (wf_some rfl rfl rfl rfl tfA) rfl rfl ?_ | refine awl_nil ?_)
      exact body_p (.cons rfl .nil) rfl
    · repeat (first | refine awp_ret ?_ | ((first | (show AWL _ _ _ (⟨_, .move _, _, _, _, _⟩ :: _) _ _ _; refine awl_pw ?wtq (pv_move rfl rfl) rfl rfl ?_) | (show AWL _ _ _ (⟨_, .assign _, _, _, _, _⟩ :: _) _ _ _; refine awl_pw ?wtq (pv_assign rfl rfl) rfl rfl ?_) | (show AWL _ _ _ (⟨_, .binOp .leq _ _ _ _, _, _, _, _⟩ :: _) _ _ _; refine awl_pw ?wtq (pv_leq rfl rfl rfl) rfl rfl ?_) | (show AWL _ _ _ (⟨_, .pick _ _ _, _, _, _, _⟩ :: _) _ _ _; refine awl_pw ?wtq (pv_pick_t rfl rfl tfA rfl) rfl rfl ?_)); case wtq => exact wtA) | refine awl_nil ?_)
      exact body_p (.cons rfl .nil) rfl
  have hS : salcL (l.getD k default) = salcL (l.getD k default) := rfl
  obtain ⟨sl, hsl⟩ : ∃ sl, l.getD k default = sl := ⟨_, rfl⟩
  repeat (first | refine awp_seq ?_ | refine awp_block ?_ | refine awp_region_lit rfl ?_ | refine awp_skip ?_ | refine awp_cond_t rfl (by first | rfl | assumption | exact dT (by omega)) ?_ | ((first | (show AWL _ _ _ (⟨_, .load _ _, _, _, _, _⟩ :: _) _ _ _; refine awl_lw ?wtq (lv_elt_ag T0 rfl rfl rfl rfl rcA) rfl rfl rfl ?_) | (show AWL _ _ _ (⟨_, .indexAddr _ _ _, _, _, _, _⟩ :: _) _ _ _; refine awl_pw ?wtq (pv_ix_t T0 rfl rfl rfl rfl (by omega) ixA) rfl rfl ?_) | (show AWL _ _ _ (⟨_, .binOp .lss _ _ _ _, _, _, _, _⟩ :: _) _ _ _; refine awl_pw ?wtq (pv_lss rfl rfl rfl) rfl rfl ?_)); case wtq => exact wtA) | refine awl_nil ?_)
  refine awl_hw wtA (st_alloc T0 rfl rfl rfl rfl scA ?_)
  intro g16
  repeat (first | refine awp_seq ?_ | (show AWL _ _ _ (⟨_, .store _ _ _, _, _, _, _⟩ :: _) _ _ _; refine awl_hw wtA (st_store T0 rfl rfl rfl rfl rfl (by first | assumption | (simp only [cellsA]; rfl)) rfl rfl rfl rcA rcA trivial ?_)) | refine awl_nil ?_)
  simp only [hsl]
  cases e1 : inB sl.fr 0 ((m.hou.length : Int) - 1)
  · have hB : setB m t l cost = false := set_no hkt fun h => by
      have := h.fr
      rw [hsl] at this
      rw [inB_iff.2 (by omega)] at e1
      cases e1
    rw [hB]
    refine awp_cut _ (awp_weak ssA rcA (ja_10a (g4 := g4) (g16 := g16) (cp := cp) (cc := cc) (m := m) (fr := sl.fr) (to := sl.to) (sh := sl.sh) hl e1 rfl)) ?_
    rintro s h ⟨rfl, rfl⟩
    repeat (first | refine awp_seq ?_ | refine awp_region_lit rfl ?_ | refine awp_ret ?_ | refine then_r ?_ | refine blk_r ?_ | refine rnd_r ?_ | refine awp_cond_t rfl (by first | rfl | assumption | exact dT (by omega)) ?_ | ((first | (show AWL _ _ _ (⟨_, .assign _, _, _, _, _⟩ :: _) _ _ _; refine awl_pw ?wtq (pv_assign rfl rfl) rfl rfl ?_)); case wtq => exact wtA) | refine awl_nil ?_)
    exact body_p (.cons rfl .nil) rfl
  cases e2 : inB sl.to 0 ((m.hou.length : Int) - 1)
  · have hB : setB m t l cost = false := set_no hkt fun h => by
      have := h.to
      rw [hsl] at this
      rw [inB_iff.2 (by omega)] at e2
      cases e2
    rw [hB]
    refine awp_cut _ (awp_weak ssA rcA (ja_10b (g4 := g4) (g16 := g16) (cp := cp) (cc := cc) (m := m) (fr := sl.fr) (to := sl.to) (sh := sl.sh) hl e1 e2 rfl)) ?_
    rintro s h ⟨rfl, rfl⟩
    repeat (first | refine awp_seq ?_ | refine awp_region_lit rfl ?_ | refine awp_ret ?_ | refine then_r ?_ | refine blk_r ?_ | refine rnd_r ?_ | refine awp_cond_t rfl (by first | rfl | assumption | exact dT (by omega)) ?_ | ((first | (show AWL _ _ _ (⟨_, .assign _, _, _, _, _⟩ :: _) _ _ _; refine awl_pw ?wtq (pv_assign rfl rfl) rfl rfl ?_)); case wtq => exact wtA) | refine awl_nil ?_)
    exact body_p (.cons rfl .nil) rfl
  by_cases e3 : sl.fr = sl.to
  · have hB : setB m t l cost = false := set_no hkt fun h => by
      have := h.ne
      rw [hsl] at this
      exact this e3
    rw [hB]
    refine awp_cut _ (awp_weak ssA rcA (ja_10c (g4 := g4) (g16 := g16) (cp := cp) (cc := cc) (m := m) (fr := sl.fr) (to := sl.to) (sh := sl.sh) hl e1 e2 e3 rfl)) ?_
    rintro s h ⟨rfl, rfl⟩
    repeat (first | refine awp_seq ?_ | refine awp_region_lit rfl ?_ | refine awp_ret ?_ | refine then_r ?_ | refine blk_r ?_ | refine rnd_r ?_ | refine awp_cond_t rfl (by first | rfl | assumption | exact dT (by omega)) ?_ | ((first | (show AWL _ _ _ (⟨_, .assign _, _, _, _, _⟩ :: _) _ _ _; refine awl_pw ?wtq (pv_assign rfl rfl) rfl rfl ?_)); case wtq => exact wtA) | refine awl_nil ?_)
    exact body_p (.cons rfl .nil) rfl
  have i1 := inB_iff.1 e1
  have i2 := inB_iff.1 e2
  obtain ⟨f, hfr⟩ : ∃ f : Nat, sl.fr = f := ⟨sl.fr.toNat, by omega⟩
  obtain ⟨b, hto⟩ : ∃ b : Nat, sl.to = b := ⟨sl.to.toNat, by omega⟩
  rw [hfr, hto] at e3
  rw [hfr] at e1
  rw [hto] at e2
  rw [hfr, hto]
  have hfl : f < m.hou.length := by omega
  have hbl : b < m.hou.length := by omega
  have hf6 : f < 6 := by omega
  have hb6 : b < 6 := by omega
  have hspb := sp_bd (k := k) hv htr hfl hok
  have hndb := nd_bd hv htr hbl k hok
  cases e4 : inB sl.sh 1 (spK m t l k f)
  · have hB : setB m t l cost = false := set_no hkt fun h => by
      have h4 := h.sh
      rw [hsl, hfr] at h4
      have h5 : 1 ≤ sl.sh ∧ sl.sh ≤ spK m t l k f := h4
      rw [inB_iff.2 h5] at e4
      cases e4
    rw [hB]
    refine awp_cut _ (awp_weak ssA rcA (ja_10d (g4 := g4) (g16 := g16) (gs := gs) (c2 := c2) (n := m.hou.length) (f := f) (b := b) (cp := cp) (cc := cc) (m := m) (sh := sl.sh) (sp := spK m t l k) (u3 := intA cost) (u12 := .v (ptrV g12)) (u13 := .v (ptrV g13)) (u14 := intA (coK m l k)) (u29 := .t (salcT cl l)) (u30 := intA l.length) (u31 := intA k) (rest := []) hl e1 e2 e3 hfl e4 rfl)) ?_
    rintro s h ⟨rfl, rfl⟩
    repeat (first | refine awp_seq ?_ | refine awp_region_lit rfl ?_ | refine awp_ret ?_ | refine then_r ?_ | refine blk_r ?_ | refine rnd_r ?_ | refine awp_cond_t rfl (by first | rfl | assumption | exact dT (by omega)) ?_ | ((first | (show AWL _ _ _ (⟨_, .assign _, _, _, _, _⟩ :: _) _ _ _; refine awl_pw ?wtq (pv_assign rfl rfl) rfl rfl ?_)); case wtq => exact wtA) | refine awl_nil ?_)
    exact body_p (.cons rfl .nil) rfl
  have i4 := inB_iff.1 e4
  have hokk : OkS m t l k := ⟨by rw [hsl]; omega, by rw [hsl]; omega, by rw [hsl, hfr, hto]; exact e3, by rw [hsl, hfr]; exact i4⟩
  have hmb := mul_bd (a := sl.sh) (b := (m.hou.getD f default).ask) (by omega) (hv.ask f hfl)
  have hsp2 : ∀ q, spK m t l (k + 1) q = if q = f then spK m t l k f - sl.sh else spK m t l k q := fun q => by
    simp only [spK]
    rw [hsl, hfr]
    by_cases e : q = f
    · subst e; rw [if_pos rfl, if_pos rfl]
    · rw [if_neg e, if_neg (by omega)]; omega
  have hnd2 : ∀ q, q < 6 → cutF (ndK m t l (k + 1)) m.hou.length q = if q = b then cutF (ndK m t l k) m.hou.length b - sl.sh else cutF (ndK m t l k) m.hou.length q := fun q _ => by
    unfold cutF
    rw [if_pos hbl]
    simp only [ndK]
    rw [hsl, hto]
    by_cases e : q = b
    · subst e; rw [if_pos rfl, if_pos rfl, if_pos hbl]
    · rw [if_neg e, if_neg (show ¬ (b : Int) = (q : Int) by omega), Int.sub_zero]
  have hco2 : coK m l (k + 1) = coK m l k + sl.sh * (m.hou.getD f default).ask := by
    simp only [coK]
    rw [hsl, hfr]
    rfl
  have hcb : cutF (ndK m t l k) m.hou.length b = ndK m t l k b := if_pos hbl
  refine awp_cut _ (awp_weak ssA rcA (ja_10d (g4 := g4) (g16 := g16) (gs := gs) (c2 := c2) (n := m.hou.length) (f := f) (b := b) (cp := cp) (cc := cc) (m := m) (sh := sl.sh) (sp := spK m t l k) (u3 := intA cost) (u12 := .v (ptrV g12)) (u13 := .v (ptrV g13)) (u14 := intA (coK m l k)) (u29 := .t (salcT cl l)) (u30 := intA l.length) (u31 := intA k) (rest := [.cl g12 127 (arrI (cutF (ndK m t l k) m.hou.length) 6), .cl g13 127 (arrI (fun _ => 0) 6)]) hl e1 e2 e3 hfl e4 rfl)) ?_
  rintro s h ⟨rfl, rfl⟩
  repeat (first | refine awp_seq ?_ | refine awp_skip ?_ | refine awp_cond_f rfl (by first | rfl | assumption | exact dF (by omega)) ?_)
  refine awp_cut _ (awp_weak ssA rcA (ja_12 (g4 := g4) (g16 := g16) (gs := gs) (c2 := c2) (n := m.hou.length) (f := f) (b := b) (x := sl.sh) (sp := spK m t l k) (nd := spK m t l (k + 1)) (u3 := intA cost) (u12 := .v (ptrV g12)) (u13 := .v (ptrV g13)) (u14 := intA (coK m l k)) (u29 := .t (salcT cl l)) (u30 := intA l.length) (u31 := intA k) (rest := [mkE g4 cp cc m, .cl g12 127 (arrI (cutF (ndK m t l k) m.hou.length) 6), .cl g13 127 (arrI (fun _ => 0) 6)]) hfl hlen hspb i4 hsp2 rfl)) ?_
  rintro s h ⟨rfl, rfl⟩
  repeat (first | refine awp_seq ?_ | refine awp_block ?_ | refine then_n ?_)
  refine awp_cut _ (awp_weak ssA rcA (ja_13 (g4 := g4) (g12 := g12) (g16 := g16) (f := f) (b := b) (x := sl.sh) (nd := cutF (ndK m t l k) m.hou.length) (nd' := cutF (ndK m t l (k + 1)) m.hou.length) (u3 := intA cost) (u10 := .v (.slice (some ⟨gs, 0, none⟩) m.hou.length c2)) (u13 := .v (ptrV g13)) (u14 := intA (coK m l k)) (u29 := .t (salcT cl l)) (u30 := intA l.length) (u31 := intA k) (rest := [mkE g4 cp cc m, .rw (.slice (some ⟨gs, 0, none⟩) m.hou.length c2) 3 1 (fRows (spK m t l (k + 1)) m.hou.length), .cl g13 127 (arrI (fun _ => 0) 6)]) hb6 (by rw [hcb]; omega) (by omega) hnd2 rfl)) ?_
  rintro s h ⟨rfl, rfl⟩
  repeat (first | refine awp_seq ?_ | refine awp_block ?_ | refine then_n ?_)
  refine awp_cutB _ (awp_weak ssA rcA (ja_14 (g4 := g4) (g16 := g16) (f := f) (b := b) (x := sl.sh) (sum := coK m l k) (cp := cp) (cc := cc) (m := m) (u3 := intA cost) (u10 := .v (.slice (some ⟨gs, 0, none⟩) m.hou.length c2)) (u12 := .v (ptrV g12)) (u13 := .v (ptrV g13)) (u29 := .t (salcT cl l)) (u30 := intA l.length) (u31 := intA k) (rest := [.rw (.slice (some ⟨gs, 0, none⟩) m.hou.length c2) 3 1 (fRows (spK m t l (k + 1)) m.hou.length), .cl g12 127 (arrI (cutF (ndK m t l (k + 1)) m.hou.length) 6), .cl g13 127 (arrI (fun _ => 0) 6)]) hfl hl hmb (by omega) rfl)) ?_
  rintro s h ⟨rfl, rfl⟩
  rw [← hco2]
  repeat (first | refine awp_region_lit rfl ?_ | ((first | (show AWL _ _ _ (⟨_, .move _, _, _, _, _⟩ :: _) _ _ _; refine awl_pw ?wtq (pv_move rfl rfl) rfl rfl ?_) | (show AWL _ _ _ (⟨_, .binOp .add _ _ _ _, _, _, _, _⟩ :: _) _ _ _; refine awl_pw ?wtq (pv_add rfl rfl rfl (by first | assumption | exact wr64 (by omega))) rfl rfl ?_)); case wtq => exact wtA) | refine awl_nil ?_)
  refine rnd_n _ _ _ ?_ ⟨k + 1, hkt, rfl, (fun j hj => ?_), rfl, rfl⟩ ssA rcA
  · omega
  · by_cases e : j = k
    · subst e; exact hokk
    · exact hok j (by omega)
end Go.Proofs.Ytallicfckbdeaaa
