/- Needs and spare shares: walks of needs and Needs. -/
import Derived.Test.YtallicfckbdeaaaCc
import Derived.Test.YtallicfckbdeaaaGPa
namespace Go.Proofs.Ytallicfckbdeaaa
open Go Go.RowKit Go.Tl
set_option linter.unusedVariables false
set_option linter.unusedSimpArgs false
set_option maxRecDepth 100000
set_option maxHeartbeats 4000000
attribute [local irreducible] AWP AWL AOp PV LV AWT AWE
/-- positions so far, those not yet reached as what is owed -/
def posA (m : MktD) (t : List Int) (k : Nat) (q : Nat) : Int := if q < k then posN m t q else owedN m q
theorem posA_zero (m : MktD) (t : List Int) : arrI (owedN m) 6 = arrI (posA m t 0) 6 := by
  congr 1
theorem posA_step (m : MktD) (t : List Int) (k : Nat) (q : Nat) : posA m t (k + 1) q = if q = k then owedN m k + t.getD k 0 else posA m t k q := by
  unfold posA
  by_cases h : q = k
  · subst h; rw [if_pos (by omega), if_pos rfl]
  · rw [if_neg h]
    by_cases h2 : q < k
    · rw [if_pos (by omega), if_pos h2]
    · rw [if_neg (by omega), if_neg h2]
theorem posA_at (m : MktD) (t : List Int) (k : Nat) : posA m t k k = owedN m k := by
  unfold posA; rw [if_neg (by omega)]
theorem posA_at1 (m : MktD) (t : List Int) (k : Nat) : posA m t (k + 1) k = posN m t k := by
  unfold posA; rw [if_pos (by omega)]
theorem pos_bd {m : MktD} {t : List Int} (hv : VMkt m) (h : truthB m t = true) {k : Nat} (hk : k < m.hou.length) : -1600 ≤ posN m t k ∧ posN m t k ≤ 1800 := by
  have h1 := inB_iff.1 ((truth_iff.1 h).2.1 k hk)
  have h2 := hv.held k hk
  have h3 := owed_bd hv k
  unfold posN
  omega
section
variable {g2 g6 g8 k : Nat} {ct : Bool} {m : MktD} {t : List Int} {d d' : Nat → Int} {hh : HouD} {a1 a2 : Option Addr} {c1 c2 : Nat} {rows1 rows2 : List (List AV)} {u12 u13 : AV} {e2 : Ent}
theorem cd_5 (hk : k < 6) (hkt : k < t.length) (hb : -2000 ≤ d k ∧ d k ≤ 2000) (hx : 0 ≤ t.getD k 0 ∧ t.getD k 0 ≤ 2000) (hd : ∀ q, q < 6 → d' q = if q = k then d k + t.getD k 0 else d q) {ops : Array Oper} (h : regF Try.f58 5 = some ops) :
    AWP Try.prog Try.f58.ntmps none (.region 5 ops true) (cutQ (fun s h => s = [(1, .t (intsT ct t)), (2, .v (ptrV g2)), (4, .v (.slice a1 k c1)), (5, .v (.slice a2 k c2)), (6, .v (ptrV g6)), (7, intA k), (8, .v (ptrV g8)), (12, u12), (13, u13), (14, intA k)] ∧ h = [.cl g8 73 [intA hh.lo, intA hh.hi, boolA hh.sells, intA hh.ask], .cl g6 127 (arrI d' 6), e2, .rw (.slice a1 k c1) 3 1 rows1, .rw (.slice a2 k c2) 3 1 rows2]))
      [(1, .t (intsT ct t)), (2, .v (ptrV g2)), (4, .v (.slice a1 k c1)), (5, .v (.slice a2 k c2)), (6, .v (ptrV g6)), (7, intA k), (8, .v (ptrV g8)), (12, u12), (13, u13), (14, intA k)] [.cl g8 73 [intA hh.lo, intA hh.hi, boolA hh.sells, intA hh.ask], .cl g6 127 (arrI d 6), e2, .rw (.slice a1 k c1) 3 1 rows1, .rw (.slice a2 k c2) 3 1 rows2] := by
  cases h
  have r1 : (arrI d 6)[k]? = some (intA (d k)) := arrI_at hk
  refine awp_tree T0 [(0, 0), (1, 0), (3, 0), (4, 0), (5, 0), (6, 1), (2, 2), (7, 0), (8, 0), (9, 3)] (.op 0 0 (.op 1 0 (.op 3 0 (.op 4 0 (.op 5 0 (.op 6 1 (.op 2 2 (.op 7 0 (.op 8 0 (.op 9 3 .stop)))))))))) [] rfl (by kernel_rfl) rcA ?_
  refine awt_po rfl (wt_none rfl) (pv_move rfl rfl) rfl rfl ?_
  refine awt_po rfl (wt_none rfl) (pv_ix_arr T0 rfl rfl rfl rfl (by omega) (by simp; rfl)) rfl rfl ?_
  refine awt_po rfl (wt_none rfl) (pv_move rfl rfl) rfl rfl ?_
  refine awt_po rfl (wt_none rfl) (pv_move rfl rfl) rfl rfl ?_
  refine awt_po rfl (wt_none rfl) (pv_ix_t T0 rfl rfl rfl rfl (by omega) ixA) rfl rfl ?_
  refine awt_lo rfl (wt_none rfl) (lv_elt_sc T0 rfl rfl rfl rfl) rfl rfl rfl ?_
  refine awt_h (hm := []) rfl (wt_none rfl) rcA rfl (aop_lv (lv_cl1 T0 rfl rfl rfl rcA r1) rfl (blt_lt rfl) ?_)
  refine awt_n1 rfl (wt_none rfl) (pv_add rfl rfl rfl (by first | assumption | exact wr64 (by omega))) rfl rfl rfl ?_
  refine awt_po rfl (wt_none rfl) (pv_ix_arr T0 rfl rfl rfl rfl (by omega) (by simp; rfl)) rfl rfl ?_
  refine awt_s (md := fun _ => True) rfl (wt_none rfl) (st_arrI T0 rfl rfl rfl rfl rfl rcA hk hd trivial ?_)
  refine awe_end ?_
  exact cut_n ⟨rfl, rfl⟩ ssA rcA
theorem cd_6 (hk : k < 6) (hb : -2000 ≤ d k ∧ d k ≤ 2000) (hn1 : rows1.length = k) (hn2 : rows2.length = k) {ops : Array Oper} (h : regF Try.f58 6 = some ops) :
    AWP Try.prog Try.f58.ntmps none (.region 6 ops true) (cutQ (fun s h => ∃ a1 c1 a2 c2, s = [(1, .t (intsT ct t)), (2, .v (ptrV g2)), (4, .v (.slice a1 (k + 1) c1)), (5, .v (.slice a2 (k + 1) c2)), (6, .v (ptrV g6)), (12, u12), (13, u13), (14, intA k)] ∧ h = [.cl g6 127 (arrI d 6), e2, .rw (.slice a1 (k + 1) c1) 3 1 (rows1 ++ [[intA (needN (d k))]]), .rw (.slice a2 (k + 1) c2) 3 1 (rows2 ++ [[intA (spareN hh (d k))]])]))
      [(1, .t (intsT ct t)), (2, .v (ptrV g2)), (4, .v (.slice a1 k c1)), (5, .v (.slice a2 k c2)), (6, .v (ptrV g6)), (7, intA k), (8, .v (ptrV g8)), (12, u12), (13, u13), (14, intA k)] [.cl g8 73 [intA hh.lo, intA hh.hi, boolA hh.sells, intA hh.ask], .cl g6 127 (arrI d 6), e2, .rw (.slice a1 k c1) 3 1 rows1, .rw (.slice a2 k c2) 3 1 rows2] := by
  cases h
  have r1 : (arrI d 6)[k]? = some (intA (d k)) := arrI_at hk
  refine awp_tree T0 [(0, 0), (1, 1), (2, 0), (3, 0), (4, 1), (8, 0), (9, 1), (10, 0), (11, 0), (12, 1), (5, 2), (6, 2), (7, 2), (13, 3), (14, 3), (15, 3), (16, 0), (17, 0)] (.op 0 0 (.op 1 1 (.op 2 0 (.op 3 0 (.op 4 1 (.op 8 0 (.op 9 1 (.op 10 0 (.op 11 0 (.op 12 1 (.op 5 2 (.op 6 2 (.op 7 2 (.op 13 3 (.op 14 3 (.op 15 3 (.op 16 0 (.op 17 0 .stop)))))))))))))))))) [.cl g8 _ _, .cl g6 _ _] rfl (by kernel_rfl) rcA ?_
  refine awt_po rfl (wt_none rfl) (pv_move rfl rfl) rfl rfl ?_
  refine awt_lo rfl (wt_none rfl) (lv_cla T0 rfl rfl rfl rcA rfl) rfl rfl rfl ?_
  refine awt_po rfl (wt_none rfl) (pv_move rfl rfl) rfl rfl ?_
  refine awt_po rfl (wt_none rfl) (pv_ix_arr T0 rfl rfl rfl rfl (by omega) (by simp; rfl)) rfl rfl ?_
  refine awt_lo rfl (wt_none rfl) (lv_cl1 T0 rfl rfl rfl rcA raA) rfl rfl rfl ?_
  refine awt_po rfl (wt_none rfl) (pv_move rfl rfl) rfl rfl ?_
  refine awt_lo rfl (wt_none rfl) (lv_cla T0 rfl rfl rfl rcA rfl) rfl rfl rfl ?_
  refine awt_po rfl (wt_none rfl) (pv_move rfl rfl) rfl rfl ?_
  refine awt_po rfl (wt_none rfl) (pv_ix_arr T0 rfl rfl rfl rfl (by omega) (by simp; rfl)) rfl rfl ?_
  refine awt_lo rfl (wt_none rfl) (lv_cl1 T0 rfl rfl rfl rcA raA) rfl rfl rfl ?_
  refine awt_h (hm := []) rfl (wt_none rfl) rcA rfl (st_call T0 (need_p hh (d k) (by omega)) rfl rfl rfl rfl (by first | exact callee_lit | exact callee_v | exact callee_fn | assumption) rcA raA rfl ?_)
  rintro _ rfl
  refine awt_h (hm := []) rfl (wt_none rfl) rcA rfl (st_bsl T0 rfl rfl rfl rfl rfl rcA rfl rfl rfl rfl (by simp only [List.map_cons, List.map_nil, cellsA]; rfl) ?_)
  intro g34
  refine awt_h (hm := _) rfl (wt_none rfl) ?sub rfl (st_app_o T0 rfl rfl rfl rfl rfl rfl rfl rfl rfl rcA rcA rfl rfl hn1 (by omega) ?_)
  case sub => exact rcA
  intro a35 c35 p35
  refine awt_s (md := fun _ => True) rfl (wt_none rfl) (st_call T0 (spare_p hh (d k)) rfl rfl rfl rfl (by first | exact callee_lit | exact callee_v | exact callee_fn | assumption) rcA raA rfl ?_)
  rintro _ rfl
  refine awe_s (md := fun _ => True) rfl (wt_none rfl) (st_bsl T0 rfl rfl rfl rfl rfl rcA rfl rfl rfl rfl (by simp only [List.map_cons, List.map_nil, cellsA]; rfl) ?_)
  intro g42
  refine awe_s (md := fun _ => True) rfl (wt_none rfl) (st_app T0 rfl rfl rfl rfl rfl rfl rfl rfl rfl rcA rcA rfl rfl hn2 (by omega) (fun _ _ => trivial) ?_)
  intro a43 c43 p43
  refine awe_p rfl (wt_none rfl) (pv_assign rfl rfl) rfl rfl ?_
  refine awe_p rfl (wt_none rfl) (pv_assign rfl rfl) rfl rfl ?_
  refine awe_end ?_
  exact cut_n ⟨_, _, _, _, rfl, rfl⟩ ssA rcA
end
theorem needs_o (cp cc ct : Bool) (m : MktD) (t : List Int) (hv : VMkt m) (ht : truthB m t = true) : ACall Try.prog 58 [mktA cp cc m, .t (intsT ct t)] [] (fun r h' => ∃ a1 c1 a2 c2, r = .tup [.v (.slice a1 m.hou.length c1), .v (.slice a2 m.hou.length c2)] ∧ h' = [.rw (.slice a1 m.hou.length c1) 3 1 ((needL m t m.hou.length).map intRow), .rw (.slice a2 m.hou.length c2) 3 1 ((spareL m t m.hou.length).map intRow)]) := by
  have hlen := hv.len
  have htl := (truth_iff.1 ht).1
  refine acall_of_awp T0 Try.func58 rfl rfl rfl ?_
  repeat (first | refine awp_seq ?_ | refine awp_region_lit rfl ?_)
  refine awl_hw (wt_none rfl) (st_box rfl rfl raA (by first | assumption | (simp only [cellsA]; rfl)) rfl rfl ?_)
  intro g2
  repeat (first | refine awp_seq ?_ | refine awp_region_lit rfl ?_ | (show AWL _ _ _ (⟨_, .assign _, _, _, _, _⟩ :: _) _ _ _; refine awl_pw (wt_none rfl) (pv_assign rfl rfl) rfl rfl ?_) | (show AWL _ _ _ (⟨_, .load _ _, _, _, _, _⟩ :: _) _ _ _; refine awl_lw (wt_none rfl) (lv_cla T0 rfl rfl rfl rcA rfl) rfl rfl rfl ?_) | refine awl_nil ?_)
  refine awl_hw (wt_none rfl) (st_call T0 (owed_p cp cc m hv) rfl rfl rfl rfl (by first | exact callee_lit | exact callee_v | exact callee_fn | assumption) rcA raA rfl ?_)
  rintro _ rfl
  skip
  refine awl_hw (wt_none rfl) (st_alloc T0 rfl rfl rfl rfl scA ?_)
  intro g6
  repeat (first | refine awp_seq ?_ | refine awp_block ?_ | refine awp_region_lit rfl ?_ | (show AWL _ _ _ (⟨_, .move _, _, _, _, _⟩ :: _) _ _ _; refine awl_pw (wt_none rfl) (pv_move rfl rfl) rfl rfl ?_) | (show AWL _ _ _ (⟨_, .load _ _, _, _, _, _⟩ :: _) _ _ _; refine awl_lw (wt_none rfl) (lv_cl1 T0 rfl rfl rfl rcA raA) rfl rfl rfl ?_) | (show AWL _ _ _ (⟨_, .fieldAddr _ _ _, _, _, _, _⟩ :: _) _ _ _; refine awl_pw (wt_none rfl) (pv_fa T0 rfl rfl rfl (by simp; rfl)) rfl rfl ?_) | (show AWL _ _ _ (⟨_, .call ⟨.builtin .len, _, _⟩, _, _, _, _⟩ :: _) _ _ _; refine awl_pw (wt_none rfl) (pv_len_t T0 rfl rfl rfl) rfl rfl ?_) | (show AWL _ _ _ (⟨_, .store _ _ _, _, _, _, _⟩ :: _) _ _ _; refine awl_hw (wt_none rfl) (st_store T0 rfl rfl rfl rfl rfl (by first | assumption | (simp only [cellsA]; rfl)) rfl rfl rfl rcA rcA trivial ?_)) | refine awl_nil ?_)
  rw [posA_zero m t]
  refine awp_ghost (ghost_nilrow 3 1) ?_
  refine awp_ghost (ghost_nilrow 3 1) ?_
  refine awp_loop (fun q s h => ∃ (k : Nat) (a1 : Option Addr) (c1 : Nat) (a2 : Option Addr) (c2 : Nat), k ≤ m.hou.length ∧ q = m.hou.length - k ∧ s = [(1, .t (intsT ct t)), (2, .v (ptrV g2)), (4, .v (.slice a1 k c1)), (5, .v (.slice a2 k c2)), (6, .v (ptrV g6)), (12, .t (housT cp m.hou)), (13, intA m.hou.length), (14, intA k)] ∧ h = [.cl g6 127 (arrI (posA m t k) 6), .cl g2 35 [intA m.ex, .t (housT cp m.hou), .t (consT cc m.con)], .rw (.slice a1 k c1) 3 1 ((needL m t k).map intRow), .rw (.slice a2 k c2) 3 1 ((spareL m t k).map intRow)]) ?_ ⟨0, _, _, _, _, Nat.zero_le _, rfl, rfl, rfl⟩ ssA rcA
  rintro q s h ⟨k, a1, c1, a2, c2, hk, rfl, rfl, rfl⟩
  have l1 : ((needL m t k).map intRow).length = k := by rw [List.length_map, needL_len]
  have l2 : ((spareL m t k).map intRow).length = k := by rw [List.length_map, spareL_len]
  by_cases hkt : k < m.hou.length
  case neg =>
    obtain rfl : k = m.hou.length := by omega
    repeat (first | refine awp_seq ?_ | refine awp_region_lit rfl ?_ | refine awp_exit ?_ | refine awp_ret ?_ | refine awp_cond_f rfl (by first | rfl | assumption | exact dF (by omega)) ?_ | (show AWL _ _ _ (⟨_, .move _, _, _, _, _⟩ :: _) _ _ _; refine awl_pw (wt_none rfl) (pv_move rfl rfl) rfl rfl ?_) | (show AWL _ _ _ (⟨_, .assign _, _, _, _, _⟩ :: _) _ _ _; refine awl_pw (wt_none rfl) (pv_assign rfl rfl) rfl rfl ?_) | (show AWL _ _ _ (⟨_, .binOp .lss _ _ _ _, _, _, _, _⟩ :: _) _ _ _; refine awl_pw (wt_none rfl) (pv_lss rfl rfl rfl) rfl rfl ?_) | refine awl_nil ?_)
    exact body_r (h' := [.rw (.slice a1 m.hou.length c1) 3 1 ((needL m t m.hou.length).map intRow), .rw (.slice a2 m.hou.length c2) 3 1 ((spareL m t m.hou.length).map intRow)]) (.cons rfl (.cons rfl .nil)) rcA ⟨a1, c1, a2, c2, rfl, rfl⟩
  have h1 := inB_iff.1 ((truth_iff.1 ht).2.1 k hkt)
  have h2 := hv.held k hkt
  have h3 := owed_bd hv k
  have h4 := pos_bd hv ht hkt
  repeat (first | refine awp_seq ?_ | refine awp_block ?_ | refine awp_region_lit rfl ?_ | refine awp_skip ?_ | refine awp_cond_t rfl (by first | rfl | assumption | exact dT (by omega)) ?_ | (show AWL _ _ _ (⟨_, .move _, _, _, _, _⟩ :: _) _ _ _; refine awl_pw (wt_none rfl) (pv_move rfl rfl) rfl rfl ?_) | (show AWL _ _ _ (⟨_, .load _ _, _, _, _, _⟩ :: _) _ _ _; refine awl_lw (wt_none rfl) (lv_elt_ag T0 rfl rfl rfl rfl rcA) rfl rfl rfl ?_) | (show AWL _ _ _ (⟨_, .indexAddr _ _ _, _, _, _, _⟩ :: _) _ _ _; refine awl_pw (wt_none rfl) (pv_ix_t T0 rfl rfl rfl rfl (by omega) ixA) rfl rfl ?_) | (show AWL _ _ _ (⟨_, .binOp .lss _ _ _ _, _, _, _, _⟩ :: _) _ _ _; refine awl_pw (wt_none rfl) (pv_lss rfl rfl rfl) rfl rfl ?_) | refine awl_nil ?_)
  refine awl_hw (wt_none rfl) (st_alloc T0 rfl rfl rfl rfl scA ?_)
  intro g8
  repeat (first | refine awp_seq ?_ | (show AWL _ _ _ (⟨_, .assign _, _, _, _, _⟩ :: _) _ _ _; refine awl_pw (wt_none rfl) (pv_assign rfl rfl) rfl rfl ?_) | (show AWL _ _ _ (⟨_, .store _ _ _, _, _, _, _⟩ :: _) _ _ _; refine awl_hw (wt_none rfl) (st_store T0 rfl rfl rfl rfl rfl (by first | assumption | (simp only [cellsA]; rfl)) rfl rfl rfl rcA rcA trivial ?_)) | refine awl_nil ?_)
  refine awp_cut _ (awp_weak ssA rcA (cd_5 (g2 := g2) (g6 := g6) (g8 := g8) (ct := ct) (t := t) (hh := m.hou.getD k default) (a1 := a1) (a2 := a2) (c1 := c1) (c2 := c2) (d := posA m t k) (d' := posA m t (k + 1)) (k := k) (e2 := .cl g2 35 [intA m.ex, .t (housT cp m.hou), .t (consT cc m.con)]) (rows1 := (needL m t k).map intRow) (rows2 := (spareL m t k).map intRow) (u12 := .t (housT cp m.hou)) (u13 := intA m.hou.length) (by omega) (by omega) (by rw [posA_at]; omega) (by omega) (fun q _ => by rw [posA_at]; exact posA_step m t k q) rfl)) ?_
  rintro s h ⟨rfl, rfl⟩
  refine awp_cutB _ (awp_weak ssA rcA (cd_6 (g2 := g2) (g6 := g6) (g8 := g8) (ct := ct) (t := t) (hh := m.hou.getD k default) (a1 := a1) (a2 := a2) (c1 := c1) (c2 := c2) (d := posA m t (k + 1)) (k := k) (e2 := .cl g2 35 [intA m.ex, .t (housT cp m.hou), .t (consT cc m.con)]) (rows1 := (needL m t k).map intRow) (rows2 := (spareL m t k).map intRow) (u12 := .t (housT cp m.hou)) (u13 := intA m.hou.length) (by omega) (by rw [posA_at1]; omega) l1 l2 rfl)) ?_
  rintro s h ⟨a1', c1', a2', c2', rfl, rfl⟩
  rw [posA_at1, show (needL m t k).map intRow ++ [[intA (needN (posN m t k))]] = (needL m t (k + 1)).map intRow from by rw [needL_step, List.map_append]; rfl, show (spareL m t k).map intRow ++ [[intA (spareN (m.hou.getD k default) (posN m t k))]] = (spareL m t (k + 1)).map intRow from by rw [spareL_step, List.map_append]; rfl]
  repeat (first | refine awp_region_lit rfl ?_ | (show AWL _ _ _ (⟨_, .move _, _, _, _, _⟩ :: _) _ _ _; refine awl_pw (wt_none rfl) (pv_move rfl rfl) rfl rfl ?_) | (show AWL _ _ _ (⟨_, .binOp .add _ _ _ _, _, _, _, _⟩ :: _) _ _ _; refine awl_pw (wt_none rfl) (pv_add rfl rfl rfl (by first | assumption | exact wr64 (by omega))) rfl rfl ?_) | refine awl_nil ?_)
  refine rnd_n _ _ _ ?_ ⟨k + 1, a1', c1', a2', c2', hkt, rfl, rfl, rfl⟩ ssA rcA
  omega
theorem nil_tree {cp : Bool} {sz : Nat} {f : Nat → List Tr} (w : World) (S : Nat → Prop) : TRel w S (.sl cp sz 0 f) (.slice none 0 0) :=
  .sl (fun _ _ => .int .i64 0) (fun _ => Nat.le_refl _) (fun k hk => absurd hk (Nat.not_lt_zero _)) (fun k hk => absurd hk (Nat.not_lt_zero _)) (fun k j x hk => absurd hk (Nat.not_lt_zero _))
theorem fault_rng (m : MktD) : 0 ≤ faultN m ∧ faultN m ≤ 3 := by
  unfold faultN
  repeat' split
  all_goals omega
/-- what Needs returns -/
def needsR (m : MktD) (t : List Int) : List Int × List Int × Int := if faultN m ≠ 0 then ([], [], faultN m) else if truthB m t = true then (needL m t m.hou.length, spareL m t m.hou.length, 0) else ([], [], 2)
theorem Needs_p (cp cc ct : Bool) (m : MktD) (t : List Int) (hl : m.hou.length ≤ 1000) (hc : m.con.length ≤ 1000) (ht : t.length ≤ 1000) : PCall Try.prog 19 [mktA cp cc m, .t (intsT ct t)] (fun r => r = .tup [.t (intsT true (needsR m t).1), .t (intsT true (needsR m t).2.1), intA (needsR m t).2.2]) := by
  refine acall_of_awp T0 Try.func19 rfl rfl rfl ?_
  by_cases hf : faultN m = 0
  case neg =>
    have d1 := decide_eq_true hf
    have hR : needsR m t = ([], [], faultN m) := by unfold needsR; rw [if_pos hf]
    rw [hR]
    repeat (first | refine awp_seq ?_ | refine awp_region_lit rfl ?_)
    refine awl_hw (wt_none rfl) (st_box rfl rfl raA (by first | assumption | (simp only [cellsA]; rfl)) rfl rfl ?_)
    intro g2
    repeat (first | refine awp_seq ?_ | refine awp_region_lit rfl ?_ | (show AWL _ _ _ (⟨_, .assign _, _, _, _, _⟩ :: _) _ _ _; refine awl_pw (wt_none rfl) (pv_assign rfl rfl) rfl rfl ?_) | (show AWL _ _ _ (⟨_, .load _ _, _, _, _, _⟩ :: _) _ _ _; refine awl_lw (wt_none rfl) (lv_cla T0 rfl rfl rfl rcA rfl) rfl rfl rfl ?_) | refine awl_nil ?_)
    refine awl_hw (wt_none rfl) (st_call T0 (check_p cp cc m hl hc) rfl rfl rfl rfl (by first | exact callee_lit | exact callee_v | exact callee_fn | assumption) rcA raA rfl ?_)
    rintro _ rfl
    repeat (first | refine awp_seq ?_ | refine awp_region_lit rfl ?_ | refine awp_ret ?_ | refine then_n ?_ | refine then_r ?_ | refine awp_cond_t rfl (by first | rfl | assumption | exact dT (by omega)) ?_ | (show AWL _ _ _ (⟨_, .move _, _, _, _, _⟩ :: _) _ _ _; refine awl_pw (wt_none rfl) (pv_move rfl rfl) rfl rfl ?_) | (show AWL _ _ _ (⟨_, .assign _, _, _, _, _⟩ :: _) _ _ _; refine awl_pw (wt_none rfl) (pv_assign rfl rfl) rfl rfl ?_) | (show AWL _ _ _ (⟨_, .binOp .neq _ _ _ _, _, _, _, _⟩ :: _) _ _ _; refine awl_pw (wt_none rfl) (pv_neq rfl rfl rfl) rfl rfl ?_) | refine awl_nil ?_)
    refine bodyQ_ghost (ghost_none (d := 4) (t := intsT true []) rfl nil_tree) ?_
    refine bodyQ_ghost (ghost_none (d := 5) (t := intsT true []) rfl nil_tree) ?_
    exact body_p (.cons rfl (.cons rfl (.cons rfl .nil))) rfl
  have d1 : decide (faultN m ≠ 0) = false := decide_eq_false (fun h => h hf)
  have hv := vmkt hf
  cases e : truthB m t
  · have hR : needsR m t = ([], [], 2) := by unfold needsR; rw [if_neg (fun h => h hf), if_neg (by rw [e]; simp)]
    rw [hR]
    repeat (first | refine awp_seq ?_ | refine awp_region_lit rfl ?_)
    refine awl_hw (wt_none rfl) (st_box rfl rfl raA (by first | assumption | (simp only [cellsA]; rfl)) rfl rfl ?_)
    intro g2
    repeat (first | refine awp_seq ?_ | refine awp_region_lit rfl ?_ | (show AWL _ _ _ (⟨_, .assign _, _, _, _, _⟩ :: _) _ _ _; refine awl_pw (wt_none rfl) (pv_assign rfl rfl) rfl rfl ?_) | (show AWL _ _ _ (⟨_, .load _ _, _, _, _, _⟩ :: _) _ _ _; refine awl_lw (wt_none rfl) (lv_cla T0 rfl rfl rfl rcA rfl) rfl rfl rfl ?_) | refine awl_nil ?_)
    refine awl_hw (wt_none rfl) (st_call T0 (check_p cp cc m hl hc) rfl rfl rfl rfl (by first | exact callee_lit | exact callee_v | exact callee_fn | assumption) rcA raA rfl ?_)
    rintro _ rfl
    repeat (first | refine awp_seq ?_ | refine awp_region_lit rfl ?_ | refine awp_skip ?_ | refine then_n ?_ | refine awp_cond_f rfl (by first | rfl | assumption | exact dF (by omega)) ?_ | (show AWL _ _ _ (⟨_, .move _, _, _, _, _⟩ :: _) _ _ _; refine awl_pw (wt_none rfl) (pv_move rfl rfl) rfl rfl ?_) | (show AWL _ _ _ (⟨_, .assign _, _, _, _, _⟩ :: _) _ _ _; refine awl_pw (wt_none rfl) (pv_assign rfl rfl) rfl rfl ?_) | (show AWL _ _ _ (⟨_, .load _ _, _, _, _, _⟩ :: _) _ _ _; refine awl_lw (wt_none rfl) (lv_cla T0 rfl rfl rfl rcA rfl) rfl rfl rfl ?_) | (show AWL _ _ _ (⟨_, .binOp .neq _ _ _ _, _, _, _, _⟩ :: _) _ _ _; refine awl_pw (wt_none rfl) (pv_neq rfl rfl rfl) rfl rfl ?_) | refine awl_nil ?_)
    refine awl_hw (wt_none rfl) (st_call T0 (is_p cp cc ct m t hv ht) rfl rfl rfl rfl (by first | exact callee_lit | exact callee_v | exact callee_fn | assumption) rcA raA rfl ?_)
    rintro _ rfl
    rw [e]
    repeat (first | refine awp_seq ?_ | refine awp_region_lit rfl ?_ | refine awp_ret ?_ | refine then_n ?_ | refine then_r ?_ | refine awp_cond_t rfl (by first | rfl | assumption | exact dT (by omega)) ?_ | (show AWL _ _ _ (⟨_, .assign _, _, _, _, _⟩ :: _) _ _ _; refine awl_pw (wt_none rfl) (pv_assign rfl rfl) rfl rfl ?_) | (show AWL _ _ _ (⟨_, .unOp .not _ _, _, _, _, _⟩ :: _) _ _ _; refine awl_pw (wt_none rfl) (pv_not rfl rfl) rfl rfl ?_) | refine awl_nil ?_)
    refine bodyQ_ghost (ghost_none (d := 4) (t := intsT true []) rfl nil_tree) ?_
    refine bodyQ_ghost (ghost_none (d := 5) (t := intsT true []) rfl nil_tree) ?_
    exact body_p (.cons rfl (.cons rfl (.cons rfl .nil))) rfl
  · have hR : needsR m t = (needL m t m.hou.length, spareL m t m.hou.length, 0) := by unfold needsR; rw [if_neg (fun h => h hf), if_pos e]
    have l1 : ((needL m t m.hou.length).map intRow).length = m.hou.length := by rw [List.length_map, needL_len]
    have l2 : ((spareL m t m.hou.length).map intRow).length = m.hou.length := by rw [List.length_map, spareL_len]
    have t1 := intRows_tree (needL m t m.hou.length)
    have t2 := intRows_tree (spareL m t m.hou.length)
    rw [needL_len] at t1
    rw [spareL_len] at t2
    rw [hR]
    repeat (first | refine awp_seq ?_ | refine awp_region_lit rfl ?_)
    refine awl_hw (wt_none rfl) (st_box rfl rfl raA (by first | assumption | (simp only [cellsA]; rfl)) rfl rfl ?_)
    intro g2
    repeat (first | refine awp_seq ?_ | refine awp_region_lit rfl ?_ | (show AWL _ _ _ (⟨_, .assign _, _, _, _, _⟩ :: _) _ _ _; refine awl_pw (wt_none rfl) (pv_assign rfl rfl) rfl rfl ?_) | (show AWL _ _ _ (⟨_, .load _ _, _, _, _, _⟩ :: _) _ _ _; refine awl_lw (wt_none rfl) (lv_cla T0 rfl rfl rfl rcA rfl) rfl rfl rfl ?_) | refine awl_nil ?_)
    refine awl_hw (wt_none rfl) (st_call T0 (check_p cp cc m hl hc) rfl rfl rfl rfl (by first | exact callee_lit | exact callee_v | exact callee_fn | assumption) rcA raA rfl ?_)
    rintro _ rfl
    repeat (first | refine awp_seq ?_ | refine awp_region_lit rfl ?_ | refine awp_skip ?_ | refine then_n ?_ | refine awp_cond_f rfl (by first | rfl | assumption | exact dF (by omega)) ?_ | (show AWL _ _ _ (⟨_, .move _, _, _, _, _⟩ :: _) _ _ _; refine awl_pw (wt_none rfl) (pv_move rfl rfl) rfl rfl ?_) | (show AWL _ _ _ (⟨_, .assign _, _, _, _, _⟩ :: _) _ _ _; refine awl_pw (wt_none rfl) (pv_assign rfl rfl) rfl rfl ?_) | (show AWL _ _ _ (⟨_, .load _ _, _, _, _, _⟩ :: _) _ _ _; refine awl_lw (wt_none rfl) (lv_cla T0 rfl rfl rfl rcA rfl) rfl rfl rfl ?_) | (show AWL _ _ _ (⟨_, .binOp .neq _ _ _ _, _, _, _, _⟩ :: _) _ _ _; refine awl_pw (wt_none rfl) (pv_neq rfl rfl rfl) rfl rfl ?_) | refine awl_nil ?_)
    refine awl_hw (wt_none rfl) (st_call T0 (is_p cp cc ct m t hv ht) rfl rfl rfl rfl (by first | exact callee_lit | exact callee_v | exact callee_fn | assumption) rcA raA rfl ?_)
    rintro _ rfl
    rw [e]
    repeat (first | refine awp_seq ?_ | refine awp_region_lit rfl ?_ | refine awp_skip ?_ | refine then_n ?_ | refine awp_cond_f rfl (by first | rfl | assumption | exact dF (by omega)) ?_ | (show AWL _ _ _ (⟨_, .move _, _, _, _, _⟩ :: _) _ _ _; refine awl_pw (wt_none rfl) (pv_move rfl rfl) rfl rfl ?_) | (show AWL _ _ _ (⟨_, .load _ _, _, _, _, _⟩ :: _) _ _ _; refine awl_lw (wt_none rfl) (lv_cla T0 rfl rfl rfl rcA rfl) rfl rfl rfl ?_) | (show AWL _ _ _ (⟨_, .unOp .not _ _, _, _, _, _⟩ :: _) _ _ _; refine awl_pw (wt_none rfl) (pv_not rfl rfl) rfl rfl ?_) | refine awl_nil ?_)
    refine awl_hw (wt_none rfl) (st_acall T0 (needs_o cp cc ct m t hv e) rfl rfl rfl rfl (by first | exact callee_lit | exact callee_v | exact callee_fn | assumption) rcA raA rfl (by first | ((repeat' (first | exact SubH.refl _ | apply SubH.cons | exact Pick.here | apply Pick.there)); all_goals fail) | fail) (fun _ _ => trivial) ?_)
    rintro r h' ⟨a1, c1, a2, c2, rfl, rfl⟩
    simp only [List.cons_append, List.nil_append]
    repeat (first | refine awp_seq ?_ | refine awp_region_lit rfl ?_ | refine awp_ret ?_ | (show AWL _ _ _ (⟨_, .move _, _, _, _, _⟩ :: _) _ _ _; refine awl_pw (wt_none rfl) (pv_move rfl rfl) rfl rfl ?_) | (show AWL _ _ _ (⟨_, .assign _, _, _, _, _⟩ :: _) _ _ _; refine awl_pw (wt_none rfl) (pv_assign rfl rfl) rfl rfl ?_) | (show AWL _ _ _ (⟨_, .extract _ _, _, _, _, _⟩ :: _) _ _ _; refine awl_pw (wt_none rfl) (pv_extract rfl rfl rfl) rfl rfl ?_) | refine awl_nil ?_)
    refine bodyQ_ghost (ghost_freeze (E := 3) (sz := 1) (n := m.hou.length) (rows := (needL m t m.hou.length).map intRow) (d := 4) (fun q => [.sc (.int .i64 ((needL m t m.hou.length).getD q 0))]) rcA rfl l1 t1) ?_
    refine bodyQ_ghost (ghost_freeze (E := 3) (sz := 1) (n := m.hou.length) (rows := (spareL m t m.hou.length).map intRow) (d := 5) (fun q => [.sc (.int .i64 ((spareL m t m.hou.length).getD q 0))]) rcA rfl l2 t2) ?_
    refine body_p (.cons rfl (.cons rfl (.cons rfl .nil))) ?_
    unfold intsT
    rw [needL_len, spareL_len]
    rfl
end Go.Proofs.Ytallicfckbdeaaa
