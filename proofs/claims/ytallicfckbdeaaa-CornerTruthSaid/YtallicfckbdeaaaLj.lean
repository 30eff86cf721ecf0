/- The law CornerTruth (Try.func8): walk. -/
import Derived.Test.YtallicfckbdeaaaLi
import Derived.Test.YtallicfckbdeaaaXb
namespace Go.Proofs.Ytallicfckbdeaaa
open Go Go.RowKit Go.Tl
set_option linter.unusedVariables false
set_option linter.unusedSimpArgs false
set_option maxRecDepth 100000
set_option maxHeartbeats 4000000
theorem need_pos {p : Int} (h : 0 < needN p) : p = -needN p := by unfold needN at *; omega
theorem spare_pos {hh : HouD} {p : Int} (h : 0 < spareN hh p) : p = spareN hh p := by
  unfold spareN at *
  split at h
  · rename_i c
    rw [if_pos c]
    omega
  · omega
theorem need_zero {p : Int} (h : needN p = 0) : 0 ≤ p := by unfold needN at h; omega
/-- where there is a truth, nothing has to be left out -/
theorem lev_none {m : MktD} (hf : faultN m = 0) (h : possB m = true) : levR m = ([], 0) := by
  unfold levR
  rw [if_neg (fun h => h hf), sizesC_step (Nat.zero_le _)]
  have e : levB m ([] ++ []) = true := h
  have : fndL (levB m) [] (combC okA1 m.hou.length 0 0 ++ sizesC okA1 m.hou.length (0 + 1)) = some [] := by
    unfold fndL
    simp only [combC, List.singleton_append, List.find?_cons, e]
    rfl
  rw [this]
  rfl
attribute [local irreducible] AWP AWL AOp PV LV AWT AWE
theorem CornerTruth_p (m : MktD) (ws : List Int) (hl : m.hou.length ≤ maxLen) (hc : m.con.length ≤ maxLen) (hwl : ws.length ≤ maxLen) (hw : ∀ x ∈ ws, 0 ≤ x ∧ x ≤ 65535) : PCall Try.prog 8 [mktA false false m, .t (kintsT .u16 ws)] (fun r => r = boolA true) := by
  have hr := ready_p m hl hc
  have hwl' : ws.length ≤ 9223372036854775807 := hwl
  clear hl hc hwl
  refine acall_of_awp T0 Try.func8 rfl rfl rfl ?_
  by_cases hf : faultN m = 0
  case neg =>
    rw [decide_eq_false hf] at hr
    repeat (first | refine awp_seq ?_ | refine awp_region_lit rfl ?_)
    refine awl_hw wtA (st_box rfl rfl raA (by first | assumption | (simp only [cellsA]; rfl)) rfl rfl ?_)
    intro g2
    repeat (first | refine awp_seq ?_ | refine awp_region_lit rfl ?_ | ((first | (show AWL _ _ _ (⟨_, .assign _, _, _, _, _⟩ :: _) _ _ _; refine awl_pw ?wtq (pv_assign rfl rfl) rfl rfl ?_) | (show AWL _ _ _ (⟨_, .load _ _, _, _, _, _⟩ :: _) _ _ _; refine awl_lw ?wtq (lv_cla T0 rfl rfl rfl rcA rfl) rfl rfl rfl ?_)); case wtq => exact wtA) | refine awl_nil ?_)
    refine awl_hw wtA (st_call T0 (hr) rfl rfl rfl rfl (by first | exact callee_lit | exact callee_v | exact callee_fn | assumption) rcA raA rfl ?_)
    rintro _ rfl
    repeat (first | refine awp_seq ?_ | refine awp_region_lit rfl ?_ | refine then_n ?_ | refine awp_cond_t rfl (by first | rfl | assumption | exact dT (by omega)) ?_ | ((first | (show AWL _ _ _ (⟨_, .move _, _, _, _, _⟩ :: _) _ _ _; refine awl_pw ?wtq (pv_move rfl rfl) rfl rfl ?_) | (show AWL _ _ _ (⟨_, .load _ _, _, _, _, _⟩ :: _) _ _ _; refine awl_lw ?wtq (lv_cla T0 rfl rfl rfl rcA rfl) rfl rfl rfl ?_) | (show AWL _ _ _ (⟨_, .unOp .not _ _, _, _, _, _⟩ :: _) _ _ _; refine awl_pw ?wtq (pv_not rfl rfl) rfl rfl ?_) | (show AWL _ _ _ (⟨_, .pick _ _ _, _, _, _, _⟩ :: _) _ _ _; refine awl_pw ?wtq (pv_pick_t rfl rfl tfA rfl) rfl rfl ?_)); case wtq => exact wtA) | refine awl_sk (wf_some rfl rfl rfl rfl tfA) rfl rfl ?_ | refine awl_nil ?_)
    refine awl_hw wtA (st_call T0 (awake_p) rfl rfl rfl rfl (by first | exact callee_lit | exact callee_v | exact callee_fn | assumption) rcA raA rfl ?_)
    rintro _ rfl
    repeat (first | refine awp_ret ?_ | refine then_r ?_ | ((first | (show AWL _ _ _ (⟨_, .assign _, _, _, _, _⟩ :: _) _ _ _; refine awl_pw ?wtq (pv_assign rfl rfl) rfl rfl ?_)); case wtq => exact wtA) | refine awl_nil ?_)
    exact body_p (.cons rfl .nil) rfl
  have hv := vmkt hf
  have hlen := hv.len
  have hpos := hv.pos
  have hclen := hv.clen
  rw [decide_eq_true hf] at hr
  have hH := refhas_p false false m hv
  cases e : possB m
  · rw [e] at hH
    repeat (first | refine awp_seq ?_ | refine awp_region_lit rfl ?_)
    refine awl_hw wtA (st_box rfl rfl raA (by first | assumption | (simp only [cellsA]; rfl)) rfl rfl ?_)
    intro g2
    repeat (first | refine awp_seq ?_ | refine awp_region_lit rfl ?_ | ((first | (show AWL _ _ _ (⟨_, .assign _, _, _, _, _⟩ :: _) _ _ _; refine awl_pw ?wtq (pv_assign rfl rfl) rfl rfl ?_) | (show AWL _ _ _ (⟨_, .load _ _, _, _, _, _⟩ :: _) _ _ _; refine awl_lw ?wtq (lv_cla T0 rfl rfl rfl rcA rfl) rfl rfl rfl ?_)); case wtq => exact wtA) | refine awl_nil ?_)
    refine awl_hw wtA (st_call T0 (hr) rfl rfl rfl rfl (by first | exact callee_lit | exact callee_v | exact callee_fn | assumption) rcA raA rfl ?_)
    rintro _ rfl
    repeat (first | ((first | (show AWL _ _ _ (⟨_, .move _, _, _, _, _⟩ :: _) _ _ _; refine awl_pw ?wtq (pv_move rfl rfl) rfl rfl ?_) | (show AWL _ _ _ (⟨_, .load _ _, _, _, _, _⟩ :: _) _ _ _; refine awl_lw ?wtq (lv_cla T0 rfl rfl rfl rcA rfl) rfl rfl rfl ?_) | (show AWL _ _ _ (⟨_, .unOp .not _ _, _, _, _, _⟩ :: _) _ _ _; refine awl_pw ?wtq (pv_not rfl rfl) rfl rfl ?_)); case wtq => exact wtA))
    refine awl_hw wtA (st_call T0 (hH) rfl rfl rfl rfl (by first | exact callee_lit | exact callee_v | exact callee_fn | assumption) rcA raA rfl ?_)
    rintro _ rfl
    repeat (first | refine awp_seq ?_ | refine awp_region_lit rfl ?_ | refine then_n ?_ | refine awp_cond_t rfl (by first | rfl | assumption | exact dT (by omega)) ?_ | ((first | (show AWL _ _ _ (⟨_, .unOp .not _ _, _, _, _, _⟩ :: _) _ _ _; refine awl_pw ?wtq (pv_not rfl rfl) rfl rfl ?_) | (show AWL _ _ _ (⟨_, .pick _ _ _, _, _, _, _⟩ :: _) _ _ _; refine awl_pw ?wtq (pv_pick_f rfl rfl tfA rfl) rfl rfl ?_)); case wtq => exact wtA) | refine awl_nil ?_)
    refine awl_hw wtA (st_call T0 (awake_p) rfl rfl rfl rfl (by first | exact callee_lit | exact callee_v | exact callee_fn | assumption) rcA raA rfl ?_)
    rintro _ rfl
    repeat (first | refine awp_ret ?_ | refine then_r ?_ | ((first | (show AWL _ _ _ (⟨_, .assign _, _, _, _, _⟩ :: _) _ _ _; refine awl_pw ?wtq (pv_assign rfl rfl) rfl rfl ?_)); case wtq => exact wtA) | refine awl_nil ?_)
    exact body_p (.cons rfl .nil) rfl
  rw [e] at hH
  have hM := market_p m (by omega) (by omega)
  have hSh := Shortage_p true true m (by omega) (by omega)
  have hCo := Cornered_p true true m (by omega) (by omega)
  have hLe := Leave_p true true m (by omega) (by omega)
  rw [asked_yes hf e] at hSh hCo
  rw [lev_none hf e] at hLe
  replace hSh : PCall Try.prog 29 [mktA true true m] (fun r => r = .tup [.ag [intA (lowN m), intA (highN m)], intA 0]) := hSh
  replace hCo : PCall Try.prog 31 [mktA true true m] (fun r => r = .tup [boolA (decide (0 < lowN m)), boolA (decide (0 < highN m)), intA 0]) := hCo
  replace hLe : PCall Try.prog 39 [mktA true true m] (fun r => r = .tup [.t (intsT true []), intA 0]) := hLe
  have z0 : ([] : List Int).length = 0 := rfl
  have z1 : decide ((([] : List Int).length : Int) ≠ 0) = false := rfl
  repeat (first | refine awp_seq ?_ | refine awp_region_lit rfl ?_)
  refine awl_hw wtA (st_box rfl rfl raA (by first | assumption | (simp only [cellsA]; rfl)) rfl rfl ?_)
  intro g2
  repeat (first | refine awp_seq ?_ | refine awp_region_lit rfl ?_ | ((first | (show AWL _ _ _ (⟨_, .assign _, _, _, _, _⟩ :: _) _ _ _; refine awl_pw ?wtq (pv_assign rfl rfl) rfl rfl ?_) | (show AWL _ _ _ (⟨_, .load _ _, _, _, _, _⟩ :: _) _ _ _; refine awl_lw ?wtq (lv_cla T0 rfl rfl rfl rcA rfl) rfl rfl rfl ?_)); case wtq => exact wtA) | refine awl_nil ?_)
  refine awl_hw wtA (st_call T0 (hr) rfl rfl rfl rfl (by first | exact callee_lit | exact callee_v | exact callee_fn | assumption) rcA raA rfl ?_)
  rintro _ rfl
  repeat (first | ((first | (show AWL _ _ _ (⟨_, .move _, _, _, _, _⟩ :: _) _ _ _; refine awl_pw ?wtq (pv_move rfl rfl) rfl rfl ?_) | (show AWL _ _ _ (⟨_, .load _ _, _, _, _, _⟩ :: _) _ _ _; refine awl_lw ?wtq (lv_cla T0 rfl rfl rfl rcA rfl) rfl rfl rfl ?_) | (show AWL _ _ _ (⟨_, .unOp .not _ _, _, _, _, _⟩ :: _) _ _ _; refine awl_pw ?wtq (pv_not rfl rfl) rfl rfl ?_)); case wtq => exact wtA))
  refine awl_hw wtA (st_call T0 (hH) rfl rfl rfl rfl (by first | exact callee_lit | exact callee_v | exact callee_fn | assumption) rcA raA rfl ?_)
  rintro _ rfl
  repeat (first | refine awp_seq ?_ | refine awp_region_lit rfl ?_ | refine awp_skip ?_ | refine then_n ?_ | refine awp_cond_f rfl (by first | rfl | assumption | exact dF (by omega)) ?_ | ((first | (show AWL _ _ _ (⟨_, .move _, _, _, _, _⟩ :: _) _ _ _; refine awl_pw ?wtq (pv_move rfl rfl) rfl rfl ?_) | (show AWL _ _ _ (⟨_, .load _ _, _, _, _, _⟩ :: _) _ _ _; refine awl_lw ?wtq (lv_cla T0 rfl rfl rfl rcA rfl) rfl rfl rfl ?_) | (show AWL _ _ _ (⟨_, .unOp .not _ _, _, _, _, _⟩ :: _) _ _ _; refine awl_pw ?wtq (pv_not rfl rfl) rfl rfl ?_) | (show AWL _ _ _ (⟨_, .pick _ _ _, _, _, _, _⟩ :: _) _ _ _; refine awl_pw ?wtq (pv_pick_f rfl rfl tfA rfl) rfl rfl ?_)); case wtq => exact wtA) | refine awl_nil ?_)
  refine awl_hw wtA (st_call T0 (picked_p false false m ws hv e hwl' hw) rfl rfl rfl rfl (by first | exact callee_lit | exact callee_v | exact callee_fn | assumption) rcA raA rfl ?_)
  rintro r ⟨t, ht, rfl⟩
  have htl := (truth_iff.1 ht).1
  have hL := list_p true t (by omega)
  have hN := Needs_p true true true m t (by omega) (by omega) (by omega)
  rw [needs_val hf ht] at hN
  replace hN : PCall Try.prog 19 [mktA true true m, .t (intsT true t)] (fun r => r = .tup [.t (intsT true (needL m t m.hou.length)), .t (intsT true (spareL m t m.hou.length)), intA 0]) := hN
  have hIs := istruth_p false false true m t hv (by omega)
  rw [ht] at hIs
  have hPr := provetruth_p true true true m t (by omega) (by omega) (by omega)
  rw [show proveB m t = true from by unfold proveB; rw [ht, decide_eq_true hf]; rfl] at hPr
  have hPo := positions_p false false true m t hv ht
  have hb1 := low_le hv ht
  have hb2 := le_high hv ht
  have hsn := short_need htl
  have l1 := needL_len m t m.hou.length
  have l2 := spareL_len m t m.hou.length
  have l3 := posL_len m t m.hou.length
  have hps := posL_sum m t
  rw [pos_sum hv ht] at hps
  have hex := hv.ex
  have hNat : ∀ i, i < m.hou.length → (needL m t m.hou.length).getD i 0 = needN (posN m t i) := fun i hi => needL_at hi
  have hSat : ∀ i, i < m.hou.length → (spareL m t m.hou.length).getD i 0 = spareN (m.hou.getD i default) (posN m t i) := fun i hi => spareL_at hi
  have hPat : ∀ i, i < m.hou.length → (posL m t m.hou.length).getD i 0 = posN m t i := fun i hi => posL_at hi
  have hpb : ∀ i, i < m.hou.length → -1600 ≤ posN m t i ∧ posN m t i ≤ 1800 := fun i hi => pos_bd hv ht hi
  have hSum := fun (l : List Int) (h1 : l.length = m.hou.length) (h2 : ∀ i, i < l.length → -1000000 ≤ l.getD i 0 ∧ l.getD i 0 ≤ 1000000) => sum_p true l (by omega) h2
  have hS1 := hSum (needL m t m.hou.length) l1 (fun i hi => by
    rw [l1] at hi
    rw [hNat i hi]
    have := hpb i hi
    have := needN_bd (p := posN m t i) (by omega)
    omega)
  have hS2 := hSum (spareL m t m.hou.length) l2 (fun i hi => by
    rw [l2] at hi
    rw [hSat i hi]
    have := hpb i hi
    have := spareN_bd (hh := m.hou.getD i default) (p := posN m t i) (by omega)
    omega)
  have hq1 := sumK_bd (l := needL m t m.hou.length) (fun i hi => by
    rw [l1] at hi
    rw [hNat i hi]
    have := hpb i hi
    have := needN_bd (p := posN m t i) (by omega)
    omega) m.hou.length (by omega)
  have hq2 := sumK_bd (l := spareL m t m.hou.length) (fun i hi => by
    rw [l2] at hi
    rw [hSat i hi]
    have := hpb i hi
    have := spareN_bd (hh := m.hou.getD i default) (p := posN m t i) (by omega)
    omega) m.hou.length (by omega)
  rw [l1] at hS1
  rw [l2] at hS2
  obtain ⟨X, hX⟩ : ∃ X, X = shortT m t := ⟨_, rfl⟩
  have hb1' : lowN m ≤ X := by rw [hX]; exact hb1
  have hb2' : X ≤ highN m := by rw [hX]; exact hb2
  rw [← hX] at hsn
  have hSe := Settle_p true true true m t (by omega) (by omega) (by omega)
  have hset : ∃ S co er, setlR m t = (S, co, er) ∧ (er = 0 ↔ X ≤ 0) ∧ (er ≠ 0 → er = 10) ∧ (er = 0 → SetS m t S ∧ coK m S S.length = co ∧ S.length ≤ 36) := by
    by_cases hs : shortT m t ≤ 0
    · obtain ⟨S, co, hR, hSS, hco, hSl, hcb, hch⟩ := setl_yes hf ht hs
      exact ⟨S, co, 0, hR, ⟨fun _ => by rw [hX]; exact hs, fun _ => rfl⟩, fun h => absurd rfl h, fun _ => ⟨hSS, hco, hSl⟩⟩
    · have hs' : 0 < shortT m t := Int.not_le.1 hs
      exact ⟨[], 0, 10, setl_no hf ht hs', ⟨(fun h => by cases h), (fun h => by rw [hX] at h; exact absurd h hs)⟩, (fun _ => rfl), (fun h => by cases h)⟩
  obtain ⟨S, co, er, hR, her1, her2, her3⟩ := hset
  rw [hR] at hSe
  replace hSe : PCall Try.prog 41 [mktA true true m, .t (intsT true t)] (fun r => r = .tup [.t (salcT true S), intA co, intA er]) := hSe
  clear hb1 hb2 hX
  generalize hNL : needL m t m.hou.length = N at *
  generalize hSL : spareL m t m.hou.length = SP at *
  generalize hPL : posL m t m.hou.length = P at *
  have e1 : decide ((N.length : Int) ≠ (t.length : Int)) = false := decide_eq_false (by omega)
  have e2 : decide ((SP.length : Int) ≠ (t.length : Int)) = false := decide_eq_false (by omega)
  repeat (first | refine awp_seq ?_ | refine awp_region_lit rfl ?_ | ((first | (show AWL _ _ _ (⟨_, .assign _, _, _, _, _⟩ :: _) _ _ _; refine awl_pw ?wtq (pv_assign rfl rfl) rfl rfl ?_) | (show AWL _ _ _ (⟨_, .load _ _, _, _, _, _⟩ :: _) _ _ _; refine awl_lw ?wtq (lv_cla T0 rfl rfl rfl rcA rfl) rfl rfl rfl ?_)); case wtq => exact wtA) | refine awl_nil ?_)
  refine awl_hw wtA (st_call T0 (hM) rfl rfl rfl rfl (by first | exact callee_lit | exact callee_v | exact callee_fn | assumption) rcA raA rfl ?_)
  rintro _ rfl
  repeat (first | ((first | (show AWL _ _ _ (⟨_, .move _, _, _, _, _⟩ :: _) _ _ _; refine awl_pw ?wtq (pv_move rfl rfl) rfl rfl ?_)); case wtq => exact wtA))
  refine awl_hw wtA (st_call T0 (hL) rfl rfl rfl rfl (by first | exact callee_lit | exact callee_v | exact callee_fn | assumption) rcA raA rfl ?_)
  rintro _ rfl
  skip
  refine awl_hw wtA (st_call T0 (hN) rfl rfl rfl rfl (by first | exact callee_lit | exact callee_v | exact callee_fn | assumption) rcA raA rfl ?_)
  rintro _ rfl
  repeat (first | refine awp_seq ?_ | refine awp_region_lit rfl ?_ | ((first | (show AWL _ _ _ (⟨_, .move _, _, _, _, _⟩ :: _) _ _ _; refine awl_pw ?wtq (pv_move rfl rfl) rfl rfl ?_) | (show AWL _ _ _ (⟨_, .assign _, _, _, _, _⟩ :: _) _ _ _; refine awl_pw ?wtq (pv_assign rfl rfl) rfl rfl ?_) | (show AWL _ _ _ (⟨_, .load _ _, _, _, _, _⟩ :: _) _ _ _; refine awl_lw ?wtq (lv_cla T0 rfl rfl rfl rcA rfl) rfl rfl rfl ?_) | (show AWL _ _ _ (⟨_, .extract _ _, _, _, _, _⟩ :: _) _ _ _; refine awl_pw ?wtq (pv_extract rfl rfl rfl) rfl rfl ?_)); case wtq => exact wtA) | refine awl_nil ?_)
  refine awl_hw wtA (st_call T0 (hM) rfl rfl rfl rfl (by first | exact callee_lit | exact callee_v | exact callee_fn | assumption) rcA raA rfl ?_)
  rintro _ rfl
  skip
  refine awl_hw wtA (st_call T0 (hSh) rfl rfl rfl rfl (by first | exact callee_lit | exact callee_v | exact callee_fn | assumption) rcA raA rfl ?_)
  rintro _ rfl
  repeat (first | ((first | (show AWL _ _ _ (⟨_, .move _, _, _, _, _⟩ :: _) _ _ _; refine awl_pw ?wtq (pv_move rfl rfl) rfl rfl ?_) | (show AWL _ _ _ (⟨_, .extract _ _, _, _, _, _⟩ :: _) _ _ _; refine awl_pw ?wtq (pv_extract rfl rfl rfl) rfl rfl ?_)); case wtq => exact wtA))
  refine awl_hw wtA (st_alloc T0 rfl rfl rfl rfl scA ?_)
  intro g9
  repeat (first | refine awp_seq ?_ | refine awp_region_lit rfl ?_ | ((first | (show AWL _ _ _ (⟨_, .assign _, _, _, _, _⟩ :: _) _ _ _; refine awl_pw ?wtq (pv_assign rfl rfl) rfl rfl ?_) | (show AWL _ _ _ (⟨_, .load _ _, _, _, _, _⟩ :: _) _ _ _; refine awl_lw ?wtq (lv_cla T0 rfl rfl rfl rcA rfl) rfl rfl rfl ?_)); case wtq => exact wtA) | (show AWL _ _ _ (⟨_, .store _ _ _, _, _, _, _⟩ :: _) _ _ _; refine awl_hw wtA (st_store T0 rfl rfl rfl rfl rfl (by first | assumption | (simp only [cellsA]; rfl)) rfl rfl rfl rcA rcA trivial ?_)) | refine awl_nil ?_)
  refine awl_hw wtA (st_call T0 (hM) rfl rfl rfl rfl (by first | exact callee_lit | exact callee_v | exact callee_fn | assumption) rcA raA rfl ?_)
  rintro _ rfl
  skip
  refine awl_hw wtA (st_call T0 (hCo) rfl rfl rfl rfl (by first | exact callee_lit | exact callee_v | exact callee_fn | assumption) rcA raA rfl ?_)
  rintro _ rfl
  repeat (first | refine awp_seq ?_ | refine awp_region_lit rfl ?_ | ((first | (show AWL _ _ _ (⟨_, .move _, _, _, _, _⟩ :: _) _ _ _; refine awl_pw ?wtq (pv_move rfl rfl) rfl rfl ?_) | (show AWL _ _ _ (⟨_, .assign _, _, _, _, _⟩ :: _) _ _ _; refine awl_pw ?wtq (pv_assign rfl rfl) rfl rfl ?_) | (show AWL _ _ _ (⟨_, .load _ _, _, _, _, _⟩ :: _) _ _ _; refine awl_lw ?wtq (lv_cla T0 rfl rfl rfl rcA rfl) rfl rfl rfl ?_) | (show AWL _ _ _ (⟨_, .extract _ _, _, _, _, _⟩ :: _) _ _ _; refine awl_pw ?wtq (pv_extract rfl rfl rfl) rfl rfl ?_)); case wtq => exact wtA) | refine awl_nil ?_)
  refine awl_hw wtA (st_call T0 (hM) rfl rfl rfl rfl (by first | exact callee_lit | exact callee_v | exact callee_fn | assumption) rcA raA rfl ?_)
  rintro _ rfl
  repeat (first | ((first | (show AWL _ _ _ (⟨_, .move _, _, _, _, _⟩ :: _) _ _ _; refine awl_pw ?wtq (pv_move rfl rfl) rfl rfl ?_)); case wtq => exact wtA))
  refine awl_hw wtA (st_call T0 (hL) rfl rfl rfl rfl (by first | exact callee_lit | exact callee_v | exact callee_fn | assumption) rcA raA rfl ?_)
  rintro _ rfl
  skip
  refine awl_hw wtA (st_call T0 (hSe) rfl rfl rfl rfl (by first | exact callee_lit | exact callee_v | exact callee_fn | assumption) rcA raA rfl ?_)
  rintro _ rfl
  repeat (first | refine awp_seq ?_ | refine awp_region_lit rfl ?_ | ((first | (show AWL _ _ _ (⟨_, .move _, _, _, _, _⟩ :: _) _ _ _; refine awl_pw ?wtq (pv_move rfl rfl) rfl rfl ?_) | (show AWL _ _ _ (⟨_, .assign _, _, _, _, _⟩ :: _) _ _ _; refine awl_pw ?wtq (pv_assign rfl rfl) rfl rfl ?_) | (show AWL _ _ _ (⟨_, .load _ _, _, _, _, _⟩ :: _) _ _ _; refine awl_lw ?wtq (lv_cla T0 rfl rfl rfl rcA rfl) rfl rfl rfl ?_) | (show AWL _ _ _ (⟨_, .extract _ _, _, _, _, _⟩ :: _) _ _ _; refine awl_pw ?wtq (pv_extract rfl rfl rfl) rfl rfl ?_)); case wtq => exact wtA) | refine awl_nil ?_)
  refine awl_hw wtA (st_call T0 (hM) rfl rfl rfl rfl (by first | exact callee_lit | exact callee_v | exact callee_fn | assumption) rcA raA rfl ?_)
  rintro _ rfl
  skip
  refine awl_hw wtA (st_call T0 (hLe) rfl rfl rfl rfl (by first | exact callee_lit | exact callee_v | exact callee_fn | assumption) rcA raA rfl ?_)
  rintro _ rfl
  repeat (first | refine awp_seq ?_ | refine awp_region_lit rfl ?_ | ((first | (show AWL _ _ _ (⟨_, .move _, _, _, _, _⟩ :: _) _ _ _; refine awl_pw ?wtq (pv_move rfl rfl) rfl rfl ?_) | (show AWL _ _ _ (⟨_, .assign _, _, _, _, _⟩ :: _) _ _ _; refine awl_pw ?wtq (pv_assign rfl rfl) rfl rfl ?_) | (show AWL _ _ _ (⟨_, .load _ _, _, _, _, _⟩ :: _) _ _ _; refine awl_lw ?wtq (lv_cla T0 rfl rfl rfl rcA rfl) rfl rfl rfl ?_) | (show AWL _ _ _ (⟨_, .extract _ _, _, _, _, _⟩ :: _) _ _ _; refine awl_pw ?wtq (pv_extract rfl rfl rfl) rfl rfl ?_)); case wtq => exact wtA) | refine awl_nil ?_)
  refine awl_hw wtA (st_call T0 (hIs) rfl rfl rfl rfl (by first | exact callee_lit | exact callee_v | exact callee_fn | assumption) rcA raA rfl ?_)
  rintro _ rfl
  repeat (first | ((first | (show AWL _ _ _ (⟨_, .move _, _, _, _, _⟩ :: _) _ _ _; refine awl_pw ?wtq (pv_move rfl rfl) rfl rfl ?_) | (show AWL _ _ _ (⟨_, .load _ _, _, _, _, _⟩ :: _) _ _ _; refine awl_lw ?wtq (lv_cla T0 rfl rfl rfl rcA rfl) rfl rfl rfl ?_) | (show AWL _ _ _ (⟨_, .binOp .neq _ _ _ _, _, _, _, _⟩ :: _) _ _ _; refine awl_pw ?wtq (pv_neq rfl rfl rfl) rfl rfl ?_) | (show AWL _ _ _ (⟨_, .call ⟨.builtin .len, _, _⟩, _, _, _, _⟩ :: _) _ _ _; refine awl_pw ?wtq (pv_len_t T0 rfl rfl rfl) rfl rfl ?_) | (show AWL _ _ _ (⟨_, .unOp .not _ _, _, _, _, _⟩ :: _) _ _ _; refine awl_pw ?wtq (pv_not rfl rfl) rfl rfl ?_) | (show AWL _ _ _ (⟨_, .pick _ _ _, _, _, _, _⟩ :: _) _ _ _; refine awl_pw ?wtq (pv_pick_f rfl rfl tfA rfl) rfl rfl ?_)); case wtq => exact wtA))
  refine awl_hw wtA (st_call T0 (hM) rfl rfl rfl rfl (by first | exact callee_lit | exact callee_v | exact callee_fn | assumption) rcA raA rfl ?_)
  rintro _ rfl
  repeat (first | ((first | (show AWL _ _ _ (⟨_, .move _, _, _, _, _⟩ :: _) _ _ _; refine awl_pw ?wtq (pv_move rfl rfl) rfl rfl ?_)); case wtq => exact wtA))
  refine awl_hw wtA (st_call T0 (hL) rfl rfl rfl rfl (by first | exact callee_lit | exact callee_v | exact callee_fn | assumption) rcA raA rfl ?_)
  rintro _ rfl
  skip
  refine awl_hw wtA (st_call T0 (hPr) rfl rfl rfl rfl (by first | exact callee_lit | exact callee_v | exact callee_fn | assumption) rcA raA rfl ?_)
  rintro _ rfl
  repeat (first | refine awp_seq ?_ | refine awp_region_lit rfl ?_ | refine awp_skip ?_ | refine then_n ?_ | refine awp_cond_f rfl (by first | rfl | assumption | exact dF (by omega)) ?_ | ((first | (show AWL _ _ _ (⟨_, .move _, _, _, _, _⟩ :: _) _ _ _; refine awl_pw ?wtq (pv_move rfl rfl) rfl rfl ?_) | (show AWL _ _ _ (⟨_, .unOp .not _ _, _, _, _, _⟩ :: _) _ _ _; refine awl_pw ?wtq (pv_not rfl rfl) rfl rfl ?_) | (show AWL _ _ _ (⟨_, .pick _ _ _, _, _, _, _⟩ :: _) _ _ _; refine awl_pw ?wtq (pv_pick_f rfl rfl tfA rfl) rfl rfl ?_)); case wtq => exact wtA) | refine awl_nil ?_)
  refine awl_hw wtA (st_call T0 (hS1) rfl rfl rfl rfl (by first | exact callee_lit | exact callee_v | exact callee_fn | assumption) rcA raA rfl ?_)
  rintro _ rfl
  repeat (first | ((first | (show AWL _ _ _ (⟨_, .move _, _, _, _, _⟩ :: _) _ _ _; refine awl_pw ?wtq (pv_move rfl rfl) rfl rfl ?_)); case wtq => exact wtA))
  refine awl_hw wtA (st_call T0 (hS2) rfl rfl rfl rfl (by first | exact callee_lit | exact callee_v | exact callee_fn | assumption) rcA raA rfl ?_)
  rintro _ rfl
  repeat (first | refine awp_seq ?_ | refine awp_region_lit rfl ?_ | ((first | (show AWL _ _ _ (⟨_, .move _, _, _, _, _⟩ :: _) _ _ _; refine awl_pw ?wtq (pv_move rfl rfl) rfl rfl ?_) | (show AWL _ _ _ (⟨_, .assign _, _, _, _, _⟩ :: _) _ _ _; refine awl_pw ?wtq (pv_assign rfl rfl) rfl rfl ?_) | (show AWL _ _ _ (⟨_, .load _ _, _, _, _, _⟩ :: _) _ _ _; refine awl_lw ?wtq (lv_cla T0 rfl rfl rfl rcA rfl) rfl rfl rfl ?_) | (show AWL _ _ _ (⟨_, .binOp .sub _ _ _ _, _, _, _, _⟩ :: _) _ _ _; refine awl_pw ?wtq (pv_sub rfl rfl rfl (by first | assumption | exact wr64 (by omega))) rfl rfl ?_)); case wtq => exact wtA) | refine awl_nil ?_)
  rw [hsn]
  refine awl_hw wtA (st_call T0 (hPo) rfl rfl rfl rfl (by first | exact callee_lit | exact callee_v | exact callee_fn | assumption) rcA raA rfl ?_)
  rintro _ rfl
  repeat (first | refine awp_seq ?_ | refine awp_block ?_ | refine awp_region_lit rfl ?_ | ((first | (show AWL _ _ _ (⟨_, .assign _, _, _, _, _⟩ :: _) _ _ _; refine awl_pw ?wtq (pv_assign rfl rfl) rfl rfl ?_)); case wtq => exact wtA) | refine awl_nil ?_)
  refine awp_loop (fun q s h => ∃ (k : Nat), k ≤ m.hou.length ∧ q = m.hou.length - k ∧ s = [(2, .v (ptrV g2)), (5, .t (intsT true t)), (6, .t (intsT true N)), (7, .t (intsT true SP)), (9, .v (ptrV g9)), (11, boolA (decide (0 < lowN m))), (12, boolA (decide (0 < highN m))), (14, .t (salcT true S)), (15, intA co), (16, intA er), (19, intA X), (20, .t (intsT true P)), (21, intA k)] ∧ h = [.cl g2 25 [intA m.ex, .t (housT false m.hou), .t (consT false m.con)], .cl g9 46 [intA (lowN m), intA (highN m)]]) ?_ ⟨0, Nat.zero_le _, rfl, rfl, rfl⟩ ssA rcA
  rintro q s h ⟨k, hk, rfl, rfl, rfl⟩
  by_cases hkt : k < m.hou.length
  · have dk : decide ((k : Int) < (P.length : Int)) = true := decide_eq_true (by omega)
    have hpk := hpb k hkt
    have hoz := one_zero (m.hou.getD k default) (posN m t k)
    repeat (first | refine awp_seq ?_ | refine awp_block ?_ | refine awp_region_lit rfl ?_ | refine awp_skip ?_ | refine then_n ?_ | refine awp_cond_t rfl (by first | rfl | assumption | exact dT (by omega)) ?_ | ((first | (show AWL _ _ _ (⟨_, .move _, _, _, _, _⟩ :: _) _ _ _; refine awl_pw ?wtq (pv_move rfl rfl) rfl rfl ?_) | (show AWL _ _ _ (⟨_, .binOp .lss _ _ _ _, _, _, _, _⟩ :: _) _ _ _; refine awl_pw ?wtq (pv_lss rfl rfl rfl) rfl rfl ?_) | (show AWL _ _ _ (⟨_, .call ⟨.builtin .len, _, _⟩, _, _, _, _⟩ :: _) _ _ _; refine awl_pw ?wtq (pv_len_t T0 rfl rfl rfl) rfl rfl ?_)); case wtq => exact wtA) | refine awl_nil ?_)
    refine awp_cut _ (awp_weak ssA rcA (li_16 (k := k) (N := N) (S := SP) (P := P) (a := needN (posN m t k)) (b := spareN (m.hou.getD k default) (posN m t k)) (c := posN m t k) (u2 := .v (ptrV g2)) (u5 := .t (intsT true t)) (u9 := .v (ptrV g9)) (u11 := boolA (decide (0 < lowN m))) (u12 := boolA (decide (0 < highN m))) (u14 := .t (salcT true S)) (u15 := intA co) (u16 := intA er) (u19 := intA X) (rest := [.cl g2 25 [intA m.ex, .t (housT false m.hou), .t (consT false m.con)], .cl g9 46 [intA (lowN m), intA (highN m)]]) (by omega) (by omega) (by omega) (by omega) (hNat k hkt) (hSat k hkt) (hPat k hkt) (by have := needN_bd (p := posN m t k) (by omega); have := spareN_bd (hh := m.hou.getD k default) (p := posN m t k) (by omega); omega) need_pos spare_pos need_zero rfl)) ?_
    rintro s h ⟨rfl, rfl⟩
    repeat (first | refine awp_region_lit rfl ?_ | refine awp_skip ?_ | refine awp_cond_f rfl (by first | rfl | assumption | exact dF (by omega)) ?_ | ((first | (show AWL _ _ _ (⟨_, .move _, _, _, _, _⟩ :: _) _ _ _; refine awl_pw ?wtq (pv_move rfl rfl) rfl rfl ?_) | (show AWL _ _ _ (⟨_, .assign _, _, _, _, _⟩ :: _) _ _ _; refine awl_pw ?wtq (pv_assign rfl rfl) rfl rfl ?_) | (show AWL _ _ _ (⟨_, .binOp .add _ _ _ _, _, _, _, _⟩ :: _) _ _ _; refine awl_pw ?wtq (pv_add rfl rfl rfl (by first | assumption | exact wr64 (by omega))) rfl rfl ?_)); case wtq => exact wtA) | refine awl_nil ?_)
    refine rnd_n _ _ _ ?_ ⟨k + 1, hkt, rfl, rfl, rfl⟩ ssA rcA
    omega
  obtain rfl : k = m.hou.length := by omega
  have dk : decide ((m.hou.length : Int) < (P.length : Int)) = false := decide_eq_false (by omega)
  repeat (first | refine awp_seq ?_ | refine awp_region_lit rfl ?_ | refine awp_exit ?_ | refine then_n ?_ | refine awp_cond_f rfl (by first | rfl | assumption | exact dF (by omega)) ?_ | ((first | (show AWL _ _ _ (⟨_, .move _, _, _, _, _⟩ :: _) _ _ _; refine awl_pw ?wtq (pv_move rfl rfl) rfl rfl ?_) | (show AWL _ _ _ (⟨_, .binOp .lss _ _ _ _, _, _, _, _⟩ :: _) _ _ _; refine awl_pw ?wtq (pv_lss rfl rfl rfl) rfl rfl ?_) | (show AWL _ _ _ (⟨_, .call ⟨.builtin .len, _, _⟩, _, _, _, _⟩ :: _) _ _ _; refine awl_pw ?wtq (pv_len_t T0 rfl rfl rfl) rfl rfl ?_)); case wtq => exact wtA) | refine awl_nil ?_)
  refine awp_cut _ (awp_weak ssA rcA (li_18 (g2 := g2) (g9 := g9) (P := P) (lo := lowN m) (hi := highN m) (x := X) (sure := decide (0 < lowN m)) (may := decide (0 < highN m)) (u5 := .t (intsT true t)) (u14 := .t (salcT true S)) (u15 := intA co) (ex := m.ex) (e := er) (B := .t (housT false m.hou)) (C := .t (consT false m.con)) hex (by omega) (fun i hi => by rw [hPat i (by omega)]; have := hpb i (by omega); omega) (by rw [l3]; exact hps) hb1' hb2' rfl rfl her1 rfl)) ?_
  rintro s h ⟨rfl, rfl⟩
  by_cases h0 : er = 0
  · subst h0
    obtain ⟨hSS, hco, hSl⟩ := her3 rfl
    repeat (first | refine awp_seq ?_ | refine awp_region_lit rfl ?_ | refine awp_skip ?_ | refine then_n ?_ | refine awp_cond_f rfl (by first | rfl | assumption | exact dF (by omega)) ?_ | ((first | (show AWL _ _ _ (⟨_, .move _, _, _, _, _⟩ :: _) _ _ _; refine awl_pw ?wtq (pv_move rfl rfl) rfl rfl ?_) | (show AWL _ _ _ (⟨_, .binOp .neq _ _ _ _, _, _, _, _⟩ :: _) _ _ _; refine awl_pw ?wtq (pv_neq rfl rfl rfl) rfl rfl ?_)); case wtq => exact wtA) | refine awl_nil ?_)
    refine awp_cut _ (awp_weak ssA rcA (li_22 (g2 := g2) (m := m) (t := t) (S := S) (co := co) hf ht hSS hco hSl rfl)) ?_
    rintro s h ⟨rfl, rfl⟩
    repeat (first | refine awp_ret ?_)
    exact body_p (.cons rfl .nil) rfl
  · obtain rfl := her2 h0
    repeat (first | refine awp_seq ?_ | refine awp_region_lit rfl ?_ | refine awp_skip ?_ | refine then_n ?_ | refine awp_cond_t rfl (by first | rfl | assumption | exact dT (by omega)) ?_ | refine awp_cond_f rfl (by first | rfl | assumption | exact dF (by omega)) ?_ | ((first | (show AWL _ _ _ (⟨_, .move _, _, _, _, _⟩ :: _) _ _ _; refine awl_pw ?wtq (pv_move rfl rfl) rfl rfl ?_) | (show AWL _ _ _ (⟨_, .binOp .eql _ _ _ _, _, _, _, _⟩ :: _) _ _ _; refine awl_pw ?wtq (pv_eql rfl rfl rfl) rfl rfl ?_) | (show AWL _ _ _ (⟨_, .binOp .neq _ _ _ _, _, _, _, _⟩ :: _) _ _ _; refine awl_pw ?wtq (pv_neq rfl rfl rfl) rfl rfl ?_)); case wtq => exact wtA) | refine awl_nil ?_)
    refine awl_hw wtA (st_call T0 (awake_p) rfl rfl rfl rfl (by first | exact callee_lit | exact callee_v | exact callee_fn | assumption) rcA raA rfl ?_)
    rintro _ rfl
    repeat (first | refine awp_ret ?_ | refine then_r ?_ | ((first | (show AWL _ _ _ (⟨_, .assign _, _, _, _, _⟩ :: _) _ _ _; refine awl_pw ?wtq (pv_assign rfl rfl) rfl rfl ?_) | (show AWL _ _ _ (⟨_, .pick _ _ _, _, _, _, _⟩ :: _) _ _ _; refine awl_pw ?wtq (pv_pick_t rfl rfl tfA rfl) rfl rfl ?_)); case wtq => exact wtA) | refine awl_nil ?_)
    exact body_p (.cons rfl .nil) rfl
end Go.Proofs.Ytallicfckbdeaaa
