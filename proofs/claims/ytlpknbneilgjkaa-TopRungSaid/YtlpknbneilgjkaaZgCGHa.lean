/- Joined texts: Ha, Hb. -/
import Derived.Test.YtlpknbneilgjkaaZgCGWk
section
namespace Go.Proofs.Ytlpknbneilgjkaa.C
open Go Go.RowKit Go.Tl
set_option linter.unusedVariables false
set_option linter.unusedSimpArgs false
set_option maxRecDepth 100000
set_option maxHeartbeats 4000000
def noSell (h : HouD) : HouD := ⟨h.lo, h.hi, false, h.ask⟩
def keep1 (hs : List HouD) (i : Int) : List HouD := hs.set i.toNat (noSell (hs.getD i.toNat default))
def keepL (hs : List HouD) (l : List Int) : List HouD := l.foldl keep1 hs
abbrev keepM (m : MktD) (l : List Int) : MktD := ⟨m.ex, keepL m.hou l, m.con⟩
theorem keepL_snoc (hs : List HouD) (l : List Int) (i : Int) : keepL hs (l ++ [i]) = keep1 (keepL hs l) i := by
  unfold keepL
  rw [List.foldl_append]
  rfl
theorem keep1_len (hs : List HouD) (i : Int) : (keep1 hs i).length = hs.length := List.length_set
theorem keep_len : ∀ (l : List Int) (hs : List HouD), (keepL hs l).length = hs.length
  | [], hs => rfl
  | i :: l, hs => by
    show (keepL (keep1 hs i) l).length = hs.length
    rw [keep_len l, keep1_len]
theorem keep1_at {hs : List HouD} {i : Int} {j : Nat} (hj : j < hs.length) (hi : 0 ≤ i) : (keep1 hs i).getD j default = if (j : Int) = i then noSell (hs.getD j default) else hs.getD j default := by
  unfold keep1
  simp only [List.getD_eq_getElem?_getD, List.getElem?_set]
  by_cases h : i.toNat = j
  · subst h
    rw [if_pos rfl, if_pos hj, if_pos (by omega)]
    rfl
  · rw [if_neg h, if_neg (by omega)]
theorem keep_at {j : Nat} : ∀ {l : List Int} {hs : List HouD}, j < hs.length → (∀ x ∈ l, 0 ≤ x) → (keepL hs l).getD j default = if (j : Int) ∈ l then noSell (hs.getD j default) else hs.getD j default
  | [], hs, hj, _ => by simp [keepL]
  | i :: l, hs, hj, hl => by
    show (keepL (keep1 hs i) l).getD j default = _
    rw [keep_at (by rw [keep1_len]; exact hj) (fun x hx => hl x (List.mem_cons_of_mem _ hx)), keep1_at hj (hl i List.mem_cons_self)]
    by_cases h1 : (j : Int) = i
    · rw [if_pos h1, if_pos (show (j : Int) ∈ i :: l by rw [h1]; exact List.mem_cons_self)]
      split <;> rfl
    · rw [if_neg h1]
      by_cases h2 : (j : Int) ∈ l
      · rw [if_pos h2, if_pos (List.mem_cons_of_mem _ h2)]
      · rw [if_neg h2, if_neg (by simp [h1, h2])]
theorem keep_ok {m : MktD} (hv : VMkt m) {l : List Int} (hl : ∀ x ∈ l, 0 ≤ x) : VMkt (keepM m l) := by
  have hn : (keepL m.hou l).length = m.hou.length := keep_len l m.hou
  have e : ∀ i, i < m.hou.length → ((keepL m.hou l).getD i default).lo = (m.hou.getD i default).lo ∧ ((keepL m.hou l).getD i default).hi = (m.hou.getD i default).hi ∧ ((keepL m.hou l).getD i default).ask = (m.hou.getD i default).ask := fun i hi => by
    rw [keep_at hi hl]
    split <;> exact ⟨rfl, rfl, rfl⟩
  refine ⟨by show 1 ≤ (keepL m.hou l).length; rw [hn]; exact hv.pos, by show (keepL m.hou l).length ≤ 6; rw [hn]; exact hv.len, hv.clen, hv.ex, fun i hi => ?_, fun i hi => ?_, fun k hk => ?_⟩
  · have hi' : i < m.hou.length := by rw [← hn]; exact hi
    show 0 ≤ ((keepL m.hou l).getD i default).lo ∧ ((keepL m.hou l).getD i default).lo ≤ ((keepL m.hou l).getD i default).hi ∧ ((keepL m.hou l).getD i default).hi ≤ 200
    rw [(e i hi').1, (e i hi').2.1]
    exact hv.held i hi'
  · have hi' : i < m.hou.length := by rw [← hn]; exact hi
    show 0 ≤ ((keepL m.hou l).getD i default).ask ∧ ((keepL m.hou l).getD i default).ask ≤ 1000
    rw [(e i hi').2.2]
    exact hv.ask i hi'
  · have := hv.con k hk
    refine ⟨⟨this.1.1, ?_⟩, ⟨this.2.1.1, ?_⟩, this.2.2⟩
    · show _ < (((keepL m.hou l).length : Nat) : Int); rw [hn]; exact this.1.2
    · show _ < (((keepL m.hou l).length : Nat) : Int); rw [hn]; exact this.2.1.2
theorem keep_row {hs : List HouD} {i : Int} (hi : 0 ≤ i ∧ i < hs.length) : (hs.map houRow).set i.toNat (spA ((hs.map houRow).getD i.toNat []) 2 [boolA false]) = (keep1 hs i).map houRow := by
  have h : i.toNat < hs.length := by omega
  have e : (hs.map houRow).getD i.toNat [] = houRow (hs.getD i.toNat default) := by
    simp [List.getD_eq_getElem?_getD, h]
  rw [e]
  unfold keep1
  rw [List.map_set]
  rfl
theorem take_snoc {l : List Int} {k : Nat} (h : k < l.length) : l.take (k + 1) = l.take k ++ [l.getD k 0] := by
  rw [List.take_add_one, List.getElem?_eq_getElem h]
  simp [List.getD_eq_getElem?_getD, List.getElem?_eq_getElem h]
attribute [local irreducible] AWP AWL AOp PV LV AWT AWE
theorem hclone_q (cp : Bool) (l : List HouD) (hl : l.length ≤ 1000) (h0 : 0 < l.length) : ACall Try.prog 157 [.t (housT cp l)] [] (fun r h' => ∃ (ga : Nat) (c : Nat), r = .v (.slice (some ⟨ga, 0, none⟩) l.length c) ∧ h' = [.rw (.slice (some ⟨ga, 0, none⟩) l.length c) 186 4 (l.map houRow)]) := by
  refine acall_of_awp T0 Try.func157 rfl rfl rfl ?_
  repeat (first | refine awp_seq ?_ | refine awp_region_lit rfl ?_ | (show AWL _ _ _ (⟨_, .move _, _, _, _, _⟩ :: _) _ _ _; refine awl_pw (wt_none rfl) (pv_move rfl rfl) rfl rfl ?_) | (show AWL _ _ _ (⟨_, .assign _, _, _, _, _⟩ :: _) _ _ _; refine awl_pw (wt_none rfl) (pv_assign rfl rfl) rfl rfl ?_) | refine awl_nil ?_)
  refine awl_hw (wt_none rfl) (aop_isnil T0 rfl rfl rfl rfl rfl ?_)
  intro bb hb
  cases bb
  · repeat (first | refine awp_seq ?_ | refine awp_region_lit rfl ?_ | refine awp_skip ?_ | with_reducible refine then_n ?_ | refine awp_cond_f rfl (by first | rfl | assumption | exact dF (by omega)) ?_ | refine awl_nil ?_)
    refine awl_hw (wt_none rfl) (st_bsl T0 rfl rfl rfl rfl rfl rcA rfl rfl rfl rfl (by simp only [List.map_cons, List.map_nil, cellsA]; rfl) ?_)
    intro g
    repeat (first | (show AWL _ _ _ (⟨_, .move _, _, _, _, _⟩ :: _) _ _ _; refine awl_pw (wt_none rfl) (pv_move rfl rfl) rfl rfl ?_))
    refine awl_hw (wt_none rfl) (st_appt T0 rfl rfl rfl rfl rfl rfl rfl rfl rfl rcA (by first | exact conOne _ | (intro k hk u hu; simp at hu; subst hu; rfl)) (rfl : ([] : List (List AV)).length = 0) (by first | omega | (simp; omega)) (fun _ _ => trivial) rfl ?_)
    intro a c p
    repeat (first | refine awp_ret ?_ | (show AWL _ _ _ (⟨_, .assign _, _, _, _, _⟩ :: _) _ _ _; refine awl_pw (wt_none rfl) (pv_assign rfl rfl) rfl rfl ?_) | refine awl_nil ?_)
    obtain ⟨ga, rfl⟩ := p (by omega)
    simp only [List.nil_append, List.length_nil, Nat.zero_add]
    have hrows : ((List.range l.length).map fun k => (houL (l.getD k default)).map AV.ofTr) = l.map houRow := by
      refine List.ext_getElem (by simp) fun k h1 h2 => ?_
      simp at h1 h2
      simp [List.getD_eq_getElem?_getD, h1, AV.ofTr, houL, houRow]
    rw [hrows]
    exact body_r (h' := [.rw (.slice (some ⟨ga, 0, none⟩) l.length c) 186 4 (l.map houRow)]) (.cons rfl .nil) rcA ⟨ga, c, rfl, rfl⟩
  · have := hb h0
    cases this
theorem keeping_p (cp cc cl : Bool) (m : MktD) (l : List Int) (hv : VMkt m) (hll : l.length ≤ 1000) (hl : ∀ x ∈ l, 0 ≤ x ∧ x < m.hou.length) : PCall Try.prog 109 [mktA cp cc m, .t (intsT cl l)] (fun r => r = .ag [intA (bndN (keepM m l)).1, intA (bndN (keepM m l)).2]) := by
  have hlen := hv.len
  have hpos := hv.pos
  refine acall_of_awp T0 Try.func109 rfl rfl rfl ?_
  repeat (first | refine awp_seq ?_ | refine awp_region_lit rfl ?_)
  refine awl_hw (wt_none rfl) (st_box rfl rfl raA (by first | assumption | (simp only [cellsA]; rfl)) rfl rfl ?_)
  intro g2
  skip
  refine awl_hw (wt_none rfl) (st_alloc T0 rfl rfl rfl rfl scA ?_)
  intro g4
  repeat (first | refine awp_seq ?_ | refine awp_region_lit rfl ?_ | (show AWL _ _ _ (⟨_, .load _ _, _, _, _, _⟩ :: _) _ _ _; refine awl_lw (wt_none rfl) (lv_cl1 T0 rfl rfl rfl rcA raA) rfl rfl rfl ?_) | (show AWL _ _ _ (⟨_, .fieldAddr _ _ _, _, _, _, _⟩ :: _) _ _ _; refine awl_pw (wt_none rfl) (pv_fa T0 rfl rfl rfl (by simp; rfl)) rfl rfl ?_) | refine awl_nil ?_)
  refine awl_hw (wt_none rfl) (st_acall T0 (hclone_q cp m.hou (by omega) (by omega)) rfl rfl rfl rfl (by first | exact callee_lit | exact callee_v | exact callee_fn | assumption) rcA raA rfl (by first | ((repeat' (first | exact SubH.refl _ | apply SubH.cons | exact Pick.here | apply Pick.there)); all_goals fail) | fail) (fun _ _ => trivial) ?_)
  rintro r h' ⟨ga, c, rfl, rfl⟩
  simp only [List.cons_append, List.nil_append]
  repeat (first | refine awp_seq ?_ | refine awp_block ?_ | refine awp_region_lit rfl ?_ | (show AWL _ _ _ (⟨_, .move _, _, _, _, _⟩ :: _) _ _ _; refine awl_pw (wt_none rfl) (pv_move rfl rfl) rfl rfl ?_) | (show AWL _ _ _ (⟨_, .fieldAddr _ _ _, _, _, _, _⟩ :: _) _ _ _; refine awl_pw (wt_none rfl) (pv_fa T0 rfl rfl rfl (by simp; rfl)) rfl rfl ?_) | (show AWL _ _ _ (⟨_, .call ⟨.builtin .len, _, _⟩, _, _, _, _⟩ :: _) _ _ _; refine awl_pw (wt_none rfl) (pv_len_t T0 rfl rfl rfl) rfl rfl ?_) | (show AWL _ _ _ (⟨_, .store _ _ _, _, _, _, _⟩ :: _) _ _ _; refine awl_hw (wt_none rfl) (st_store T0 rfl rfl rfl rfl rfl (by first | assumption | (simp only [cellsA]; rfl)) rfl rfl rfl rcA rcA trivial ?_)) | refine awl_nil ?_)
  refine awp_loop (fun q s h => ∃ (k : Nat), k ≤ l.length ∧ q = l.length - k ∧ s = [(2, .v (ptrV g2)), (4, .v (ptrV g4)), (13, .t (intsT cl l)), (14, intA l.length), (15, intA k)] ∧ h = [.cl g2 191 [intA m.ex, .v (.slice (some ⟨ga, 0, none⟩) m.hou.length c), .t (consT cc m.con)], .cl g4 184 [intA 0, intA 0], .rw (.slice (some ⟨ga, 0, none⟩) m.hou.length c) 186 4 ((keepL m.hou (l.take k)).map houRow)]) ?_ ⟨0, Nat.zero_le _, rfl, rfl, rfl⟩ ssA rcA
  rintro q s h ⟨k, hk, rfl, rfl, rfl⟩
  have hkl : (keepL m.hou (l.take k)).length = m.hou.length := keep_len _ _
  by_cases hkt : k < l.length
  case neg =>
    obtain rfl : k = l.length := by omega
    rw [List.take_length] at hkl ⊢
    rw [← hkl]
    refine awp_ghost (ghost_freeze_cell (g := g2) (j := 1) (v := .slice (some ⟨ga, 0, none⟩) (keepL m.hou l).length c) (E := 186) (sz := 4) (n := (keepL m.hou l).length) (rows := (keepL m.hou l).map houRow) (fun q => houL ((keepL m.hou l).getD q default)) rcA rcA rfl rfl (List.length_map _) (rows_tree (keepL m.hou l) houRow houL (fun _ => rfl))) ?_
    have hkv := keep_ok hv (fun x hx => (hl x hx).1)
    repeat (first | refine awp_seq ?_ | refine awp_region_lit rfl ?_ | refine awp_exit ?_ | refine awp_cond_f rfl (by first | rfl | assumption | exact dF (by omega)) ?_ | (show AWL _ _ _ (⟨_, .load _ _, _, _, _, _⟩ :: _) _ _ _; refine awl_lw (wt_none rfl) (lv_cla T0 rfl rfl rfl rcA rfl) rfl rfl rfl ?_) | (show AWL _ _ _ (⟨_, .binOp .lss _ _ _ _, _, _, _, _⟩ :: _) _ _ _; refine awl_pw (wt_none rfl) (pv_lss rfl rfl rfl) rfl rfl ?_) | refine awl_nil ?_)
    refine awl_hw (wt_none rfl) (st_call T0 (shortage_p true cc (keepM m l) hkv) rfl rfl rfl rfl (by first | exact callee_lit | exact callee_v | exact callee_fn | assumption) rcA raA rfl ?_)
    rintro _ rfl
    repeat (first | (show AWL _ _ _ (⟨_, .move _, _, _, _, _⟩ :: _) _ _ _; refine awl_pw (wt_none rfl) (pv_move rfl rfl) rfl rfl ?_) | (show AWL _ _ _ (⟨_, .extract _ _, _, _, _, _⟩ :: _) _ _ _; refine awl_pw (wt_none rfl) (pv_extract rfl rfl rfl) rfl rfl ?_))
    refine awl_hw (wt_none rfl) (st_alloc T0 rfl rfl rfl rfl scA ?_)
    intro g7
    repeat (first | refine awp_seq ?_ | refine awp_region_lit rfl ?_ | refine awp_ret ?_ | (show AWL _ _ _ (⟨_, .assign _, _, _, _, _⟩ :: _) _ _ _; refine awl_pw (wt_none rfl) (pv_assign rfl rfl) rfl rfl ?_) | (show AWL _ _ _ (⟨_, .load _ _, _, _, _, _⟩ :: _) _ _ _; refine awl_lw (wt_none rfl) (lv_cla T0 rfl rfl rfl rcA rfl) rfl rfl rfl ?_) | (show AWL _ _ _ (⟨_, .store _ _ _, _, _, _, _⟩ :: _) _ _ _; refine awl_hw (wt_none rfl) (st_store T0 rfl rfl rfl rfl rfl (by first | assumption | (simp only [cellsA]; rfl)) rfl rfl rfl rcA rcA trivial ?_)) | refine awl_nil ?_)
    refine body_p (res_cell rfl rfl rcA rfl rfl rfl .nil) ?_
    rfl
  have hx := hl _ (getD_mem (d := (0 : Int)) hkt)
  have hs := keep_row (hs := keepL m.hou (l.take k)) (i := l.getD k 0) (by rw [hkl]; exact hx)
  rw [← keepL_snoc, ← take_snoc hkt] at hs
  have hrl : ((keepL m.hou (l.take k)).map houRow).length = m.hou.length := by rw [List.length_map, hkl]
  repeat (first | refine awp_seq ?_ | refine awp_block ?_ | refine awp_region_lit rfl ?_ | refine awp_skip ?_ | refine awp_cond_t rfl (by first | rfl | assumption | exact dT (by omega)) ?_ | (show AWL _ _ _ (⟨_, .move _, _, _, _, _⟩ :: _) _ _ _; refine awl_pw (wt_none rfl) (pv_move rfl rfl) rfl rfl ?_) | (show AWL _ _ _ (⟨_, .assign _, _, _, _, _⟩ :: _) _ _ _; refine awl_pw (wt_none rfl) (pv_assign rfl rfl) rfl rfl ?_) | (show AWL _ _ _ (⟨_, .load _ _, _, _, _, _⟩ :: _) _ _ _; refine awl_lw (wt_none rfl) (lv_cl1 T0 rfl rfl rfl rcA raA) rfl rfl rfl ?_) | (show AWL _ _ _ (⟨_, .load _ _, _, _, _, _⟩ :: _) _ _ _; refine awl_lw (wt_none rfl) (lv_elt_sc T0 rfl rfl rfl rfl) rfl rfl rfl ?_) | (show AWL _ _ _ (⟨_, .fieldAddr _ _ _, _, _, _, _⟩ :: _) _ _ _; refine awl_pw (wt_none rfl) (pv_fa T0 rfl rfl rfl (by simp; rfl)) rfl rfl ?_) | (show AWL _ _ _ (⟨_, .fieldAddr _ _ _, _, _, _, _⟩ :: _) _ _ _; refine awl_pw (wt_none rfl) (pv_fa_rp T0 rfl rfl rfl (by simp; rfl)) rfl rfl ?_) | (show AWL _ _ _ (⟨_, .indexAddr _ _ _, _, _, _, _⟩ :: _) _ _ _; refine awl_pw (wt_none rfl) (pv_ix_t T0 rfl rfl rfl rfl (by omega) ixA) rfl rfl ?_) | (show AWL _ _ _ (⟨_, .indexAddr _ _ _, _, _, _, _⟩ :: _) _ _ _; refine awl_pw (wt_none rfl) (pv_ix_own T0 rfl rfl rfl rfl (by omega) ixA) rfl rfl ?_) | (show AWL _ _ _ (⟨_, .binOp .lss _ _ _ _, _, _, _, _⟩ :: _) _ _ _; refine awl_pw (wt_none rfl) (pv_lss rfl rfl rfl) rfl rfl ?_) | refine awl_nil ?_)
  refine awl_hw (wt_none rfl) (aop_store_rp T0 rfl rfl rfl rfl rfl rfl rfl rfl rcA (by show (l.getD k 0).toNat < _; omega) (by omega) hs trivial ?_)
  repeat (first | refine awp_region_lit rfl ?_ | (show AWL _ _ _ (⟨_, .move _, _, _, _, _⟩ :: _) _ _ _; refine awl_pw (wt_none rfl) (pv_move rfl rfl) rfl rfl ?_) | (show AWL _ _ _ (⟨_, .binOp .add _ _ _ _, _, _, _, _⟩ :: _) _ _ _; refine awl_pw (wt_none rfl) (pv_add rfl rfl rfl (by first | assumption | exact wr64 (by omega))) rfl rfl ?_) | refine awl_nil ?_)
  refine rnd_n _ _ _ ?_ ⟨k + 1, hkt, rfl, rfl, rfl⟩ ssA rcA
  omega
end Go.Proofs.Ytlpknbneilgjkaa.C
end
section
namespace Go.Proofs.Ytlpknbneilgjkaa.C
open Go Go.RowKit Go.Tl
set_option linter.unusedVariables false
set_option linter.unusedSimpArgs false
set_option maxRecDepth 100000
set_option maxHeartbeats 4000000
def essL (m : MktD) (f : Int × Int → Int) : Nat → List Int
  | 0 => []
  | k + 1 => if (m.hou.getD k default).sells = true ∧ 0 < f (bndN (keepM m [(k : Int)])) then essL m f k ++ [(k : Int)] else essL m f k
theorem ess_len (m : MktD) (f : Int × Int → Int) : ∀ k, (essL m f k).length ≤ k
  | 0 => Nat.le_refl _
  | k + 1 => by
    have := ess_len m f k
    simp only [essL]
    split
    · simp; omega
    · omega
theorem ess_no {m : MktD} {f : Int × Int → Int} {k : Nat} (h : ¬ ((m.hou.getD k default).sells = true ∧ 0 < f (bndN (keepM m [(k : Int)])))) : essL m f (k + 1) = essL m f k := by simp only [essL]; rw [if_neg h]
theorem ess_yes {m : MktD} {f : Int × Int → Int} {k : Nat} (h : (m.hou.getD k default).sells = true ∧ 0 < f (bndN (keepM m [(k : Int)]))) : essL m f (k + 1) = essL m f k ++ [(k : Int)] := by simp only [essL]; rw [if_pos h]
attribute [local irreducible] AWP AWL AOp PV LV AWT AWE
def essR (m : MktD) : List Int × List Int × Int := if (askedR m).2 ≠ 0 then ([], [], (askedR m).2) else (essL m Prod.fst m.hou.length, essL m Prod.snd m.hou.length, 0)
theorem Essential_p (cp cc : Bool) (m : MktD) (hl : m.hou.length ≤ 1000) (hc : m.con.length ≤ 1000) : PCall Try.prog 73 [mktA cp cc m] (fun r => r = .tup [.t (intsT true (essR m).1), .t (intsT true (essR m).2.1), intA (essR m).2.2]) := by
  refine acall_of_awp T0 Try.func73 rfl rfl rfl ?_
  unfold essR
  by_cases h0 : (askedR m).2 = 0
  case neg =>
    have d1 := decide_eq_true h0
    rw [if_pos h0]
    repeat (first | refine awp_seq ?_ | refine awp_region_lit rfl ?_)
    refine awl_hw (wt_none rfl) (st_box rfl rfl raA (by first | assumption | (simp only [cellsA]; rfl)) rfl rfl ?_)
    intro g1
    repeat (first | refine awp_seq ?_ | refine awp_region_lit rfl ?_ | (show AWL _ _ _ (⟨_, .assign _, _, _, _, _⟩ :: _) _ _ _; refine awl_pw (wt_none rfl) (pv_assign rfl rfl) rfl rfl ?_) | (show AWL _ _ _ (⟨_, .load _ _, _, _, _, _⟩ :: _) _ _ _; refine awl_lw (wt_none rfl) (lv_cla T0 rfl rfl rfl rcA rfl) rfl rfl rfl ?_) | refine awl_nil ?_)
    refine awl_hw (wt_none rfl) (st_call T0 (asked_p cp cc m hl hc) rfl rfl rfl rfl (by first | exact callee_lit | exact callee_v | exact callee_fn | assumption) rcA raA rfl ?_)
    rintro _ rfl
    repeat (first | (show AWL _ _ _ (⟨_, .move _, _, _, _, _⟩ :: _) _ _ _; refine awl_pw (wt_none rfl) (pv_move rfl rfl) rfl rfl ?_) | (show AWL _ _ _ (⟨_, .extract _ _, _, _, _, _⟩ :: _) _ _ _; refine awl_pw (wt_none rfl) (pv_extract rfl rfl rfl) rfl rfl ?_))
    refine awl_hw (wt_none rfl) (st_alloc T0 rfl rfl rfl rfl scA ?_)
    intro g5
    repeat (first | refine awp_seq ?_ | refine awp_region_lit rfl ?_ | refine awp_ret ?_ | with_reducible refine then_n ?_ | with_reducible refine then_r ?_ | refine awp_cond_t rfl (by first | rfl | assumption | exact dT (by omega)) ?_ | (show AWL _ _ _ (⟨_, .move _, _, _, _, _⟩ :: _) _ _ _; refine awl_pw (wt_none rfl) (pv_move rfl rfl) rfl rfl ?_) | (show AWL _ _ _ (⟨_, .assign _, _, _, _, _⟩ :: _) _ _ _; refine awl_pw (wt_none rfl) (pv_assign rfl rfl) rfl rfl ?_) | (show AWL _ _ _ (⟨_, .binOp .neq _ _ _ _, _, _, _, _⟩ :: _) _ _ _; refine awl_pw (wt_none rfl) (pv_neq rfl rfl rfl) rfl rfl ?_) | (show AWL _ _ _ (⟨_, .store _ _ _, _, _, _, _⟩ :: _) _ _ _; refine awl_hw (wt_none rfl) (st_store T0 rfl rfl rfl rfl rfl (by first | assumption | (simp only [cellsA]; rfl)) rfl rfl rfl rcA rcA trivial ?_)) | refine awl_nil ?_)
    refine bodyQ_ghost (ghost_none (d := 2) (t := intsT true []) rfl nil_tree) ?_
    refine bodyQ_ghost (ghost_none (d := 3) (t := intsT true []) rfl nil_tree) ?_
    exact body_p (.cons rfl (.cons rfl (.cons rfl .nil))) rfl
  have d1 : decide ((askedR m).2 ≠ 0) = false := decide_eq_false (fun h => h h0)
  rw [if_neg (fun h => h h0)]
  have hf : faultN m = 0 := by
    cases Decidable.em (faultN m = 0) with
    | inl h => exact h
    | inr h => unfold askedR at h0; rw [if_pos h] at h0; exact h0
  have hv := vmkt hf
  have hlen := hv.len
  repeat (first | refine awp_seq ?_ | refine awp_region_lit rfl ?_)
  refine awl_hw (wt_none rfl) (st_box rfl rfl raA (by first | assumption | (simp only [cellsA]; rfl)) rfl rfl ?_)
  intro g1
  repeat (first | refine awp_seq ?_ | refine awp_region_lit rfl ?_ | (show AWL _ _ _ (⟨_, .assign _, _, _, _, _⟩ :: _) _ _ _; refine awl_pw (wt_none rfl) (pv_assign rfl rfl) rfl rfl ?_) | (show AWL _ _ _ (⟨_, .load _ _, _, _, _, _⟩ :: _) _ _ _; refine awl_lw (wt_none rfl) (lv_cla T0 rfl rfl rfl rcA rfl) rfl rfl rfl ?_) | refine awl_nil ?_)
  refine awl_hw (wt_none rfl) (st_call T0 (asked_p cp cc m hl hc) rfl rfl rfl rfl (by first | exact callee_lit | exact callee_v | exact callee_fn | assumption) rcA raA rfl ?_)
  rintro _ rfl
  rw [h0]
  repeat (first | (show AWL _ _ _ (⟨_, .move _, _, _, _, _⟩ :: _) _ _ _; refine awl_pw (wt_none rfl) (pv_move rfl rfl) rfl rfl ?_) | (show AWL _ _ _ (⟨_, .extract _ _, _, _, _, _⟩ :: _) _ _ _; refine awl_pw (wt_none rfl) (pv_extract rfl rfl rfl) rfl rfl ?_))
  refine awl_hw (wt_none rfl) (st_alloc T0 rfl rfl rfl rfl scA ?_)
  intro g5
  repeat (first | refine awp_seq ?_ | refine awp_block ?_ | refine awp_region_lit rfl ?_ | refine awp_skip ?_ | with_reducible refine then_n ?_ | refine awp_cond_f rfl (by first | rfl | assumption | exact dF (by omega)) ?_ | (show AWL _ _ _ (⟨_, .move _, _, _, _, _⟩ :: _) _ _ _; refine awl_pw (wt_none rfl) (pv_move rfl rfl) rfl rfl ?_) | (show AWL _ _ _ (⟨_, .assign _, _, _, _, _⟩ :: _) _ _ _; refine awl_pw (wt_none rfl) (pv_assign rfl rfl) rfl rfl ?_) | (show AWL _ _ _ (⟨_, .load _ _, _, _, _, _⟩ :: _) _ _ _; refine awl_lw (wt_none rfl) (lv_cl1 T0 rfl rfl rfl rcA raA) rfl rfl rfl ?_) | (show AWL _ _ _ (⟨_, .fieldAddr _ _ _, _, _, _, _⟩ :: _) _ _ _; refine awl_pw (wt_none rfl) (pv_fa T0 rfl rfl rfl (by simp; rfl)) rfl rfl ?_) | (show AWL _ _ _ (⟨_, .binOp .neq _ _ _ _, _, _, _, _⟩ :: _) _ _ _; refine awl_pw (wt_none rfl) (pv_neq rfl rfl rfl) rfl rfl ?_) | (show AWL _ _ _ (⟨_, .call ⟨.builtin .len, _, _⟩, _, _, _, _⟩ :: _) _ _ _; refine awl_pw (wt_none rfl) (pv_len_t T0 rfl rfl rfl) rfl rfl ?_) | (show AWL _ _ _ (⟨_, .store _ _ _, _, _, _, _⟩ :: _) _ _ _; refine awl_hw (wt_none rfl) (st_store T0 rfl rfl rfl rfl rfl (by first | assumption | (simp only [cellsA]; rfl)) rfl rfl rfl rcA rcA trivial ?_)) | refine awl_nil ?_)
  refine awp_ghost (ghost_nilrow 3 1) ?_
  refine awp_ghost (ghost_nilrow 3 1) ?_
  refine awp_loop (fun q s h => ∃ (k : Nat) (a1 : Option Addr) (c1 : Nat) (a2 : Option Addr) (c2 : Nat), k ≤ m.hou.length ∧ q = m.hou.length - k ∧ s = [(1, .v (ptrV g1)), (2, .v (.slice a1 (essL m Prod.fst k).length c1)), (3, .v (.slice a2 (essL m Prod.snd k).length c2)), (19, .t (housT cp m.hou)), (20, intA m.hou.length), (21, intA k)] ∧ h = [.cl g1 191 [intA m.ex, .t (housT cp m.hou), .t (consT cc m.con)], .rw (.slice a1 (essL m Prod.fst k).length c1) 3 1 ((essL m Prod.fst k).map intRow), .rw (.slice a2 (essL m Prod.snd k).length c2) 3 1 ((essL m Prod.snd k).map intRow)]) ?_ ⟨0, _, _, _, _, Nat.zero_le _, rfl, rfl, rfl⟩ ssA rcA
  rintro q s h ⟨k, a1, c1, a2, c2, hk, rfl, rfl, rfl⟩
  by_cases hkt : k < m.hou.length
  case neg =>
    obtain rfl : k = m.hou.length := by omega
    repeat (first | refine awp_seq ?_ | refine awp_region_lit rfl ?_ | refine awp_exit ?_ | refine awp_ret ?_ | refine awp_cond_f rfl (by first | rfl | assumption | exact dF (by omega)) ?_ | (show AWL _ _ _ (⟨_, .move _, _, _, _, _⟩ :: _) _ _ _; refine awl_pw (wt_none rfl) (pv_move rfl rfl) rfl rfl ?_) | (show AWL _ _ _ (⟨_, .assign _, _, _, _, _⟩ :: _) _ _ _; refine awl_pw (wt_none rfl) (pv_assign rfl rfl) rfl rfl ?_) | (show AWL _ _ _ (⟨_, .binOp .lss _ _ _ _, _, _, _, _⟩ :: _) _ _ _; refine awl_pw (wt_none rfl) (pv_lss rfl rfl rfl) rfl rfl ?_) | refine awl_nil ?_)
    refine bodyQ_ghost (ghost_freeze (E := 3) (sz := 1) (n := (essL m Prod.fst m.hou.length).length) (rows := (essL m Prod.fst m.hou.length).map intRow) (d := 2) (fun q => [.sc (.int .i64 ((essL m Prod.fst m.hou.length).getD q 0))]) rcA rfl (List.length_map _) (intRows_tree _)) ?_
    refine bodyQ_ghost (ghost_freeze (E := 3) (sz := 1) (n := (essL m Prod.snd m.hou.length).length) (rows := (essL m Prod.snd m.hou.length).map intRow) (d := 3) (fun q => [.sc (.int .i64 ((essL m Prod.snd m.hou.length).getD q 0))]) rcA rfl (List.length_map _) (intRows_tree _)) ?_
    exact body_p (.cons rfl (.cons rfl (.cons rfl .nil))) rfl
  have b1 := ess_len m Prod.fst k
  have b2 := ess_len m Prod.snd k
  have l1 : ((essL m Prod.fst k).map intRow).length = (essL m Prod.fst k).length := List.length_map _
  have l2 : ((essL m Prod.snd k).map intRow).length = (essL m Prod.snd k).length := List.length_map _
  cases hse : (m.hou.getD k default).sells
  · have n1 := ess_no (m := m) (f := Prod.fst) (k := k) (fun h => by rw [hse] at h; cases h.1)
    have n2 := ess_no (m := m) (f := Prod.snd) (k := k) (fun h => by rw [hse] at h; cases h.1)
    repeat (first | refine awp_seq ?_ | refine awp_block ?_ | refine awp_region_lit rfl ?_ | refine awp_skip ?_ | refine awp_cond_t rfl (by first | rfl | assumption | exact dT (by omega)) ?_ | (show AWL _ _ _ (⟨_, .move _, _, _, _, _⟩ :: _) _ _ _; refine awl_pw (wt_none rfl) (pv_move rfl rfl) rfl rfl ?_) | (show AWL _ _ _ (⟨_, .load _ _, _, _, _, _⟩ :: _) _ _ _; refine awl_lw (wt_none rfl) (lv_elt_ag T0 rfl rfl rfl rfl rcA) rfl rfl rfl ?_) | (show AWL _ _ _ (⟨_, .indexAddr _ _ _, _, _, _, _⟩ :: _) _ _ _; refine awl_pw (wt_none rfl) (pv_ix_t T0 rfl rfl rfl rfl (by omega) ixA) rfl rfl ?_) | (show AWL _ _ _ (⟨_, .binOp .lss _ _ _ _, _, _, _, _⟩ :: _) _ _ _; refine awl_pw (wt_none rfl) (pv_lss rfl rfl rfl) rfl rfl ?_) | refine awl_nil ?_)
    refine awl_hw (wt_none rfl) (st_alloc T0 rfl rfl rfl rfl scA ?_)
    intro g8
    rw [hse]
    repeat (first | refine awp_seq ?_ | refine awp_region_lit rfl ?_ | refine awp_exit ?_ | with_reducible refine then_n ?_ | refine awp_cond_t rfl (by first | rfl | assumption | exact dT (by omega)) ?_ | (show AWL _ _ _ (⟨_, .move _, _, _, _, _⟩ :: _) _ _ _; refine awl_pw (wt_none rfl) (pv_move rfl rfl) rfl rfl ?_) | (show AWL _ _ _ (⟨_, .assign _, _, _, _, _⟩ :: _) _ _ _; refine awl_pw (wt_none rfl) (pv_assign rfl rfl) rfl rfl ?_) | (show AWL _ _ _ (⟨_, .load _ _, _, _, _, _⟩ :: _) _ _ _; refine awl_lw (wt_none rfl) (lv_cl1 T0 rfl rfl rfl rcA raA) rfl rfl rfl ?_) | (show AWL _ _ _ (⟨_, .fieldAddr _ _ _, _, _, _, _⟩ :: _) _ _ _; refine awl_pw (wt_none rfl) (pv_fa T0 rfl rfl rfl (by simp; rfl)) rfl rfl ?_) | (show AWL _ _ _ (⟨_, .binOp .add _ _ _ _, _, _, _, _⟩ :: _) _ _ _; refine awl_pw (wt_none rfl) (pv_add rfl rfl rfl (by first | assumption | exact wr64 (by omega))) rfl rfl ?_) | (show AWL _ _ _ (⟨_, .unOp .not _ _, _, _, _, _⟩ :: _) _ _ _; refine awl_pw (wt_none rfl) (pv_not rfl rfl) rfl rfl ?_) | (show AWL _ _ _ (⟨_, .store _ _ _, _, _, _, _⟩ :: _) _ _ _; refine awl_hw (wt_none rfl) (st_store T0 rfl rfl rfl rfl rfl (by first | assumption | (simp only [cellsA]; rfl)) rfl rfl rfl rcA rcA trivial ?_)) | refine awl_nil ?_)
    rw [← n1, ← n2]
    refine rnd_n _ _ _ ?_ ⟨k + 1, a1, c1, a2, c2, hkt, rfl, rfl, rfl⟩ ssA rcA
    omega
  have hC := keeping_p cp cc true m [(k : Int)] hv (by simp) (fun x hx => by simp at hx; omega)
  repeat (first | refine awp_seq ?_ | refine awp_block ?_ | refine awp_region_lit rfl ?_ | refine awp_skip ?_ | refine awp_cond_t rfl (by first | rfl | assumption | exact dT (by omega)) ?_ | (show AWL _ _ _ (⟨_, .move _, _, _, _, _⟩ :: _) _ _ _; refine awl_pw (wt_none rfl) (pv_move rfl rfl) rfl rfl ?_) | (show AWL _ _ _ (⟨_, .load _ _, _, _, _, _⟩ :: _) _ _ _; refine awl_lw (wt_none rfl) (lv_elt_ag T0 rfl rfl rfl rfl rcA) rfl rfl rfl ?_) | (show AWL _ _ _ (⟨_, .indexAddr _ _ _, _, _, _, _⟩ :: _) _ _ _; refine awl_pw (wt_none rfl) (pv_ix_t T0 rfl rfl rfl rfl (by omega) ixA) rfl rfl ?_) | (show AWL _ _ _ (⟨_, .binOp .lss _ _ _ _, _, _, _, _⟩ :: _) _ _ _; refine awl_pw (wt_none rfl) (pv_lss rfl rfl rfl) rfl rfl ?_) | refine awl_nil ?_)
  refine awl_hw (wt_none rfl) (st_alloc T0 rfl rfl rfl rfl scA ?_)
  intro g8
  rw [hse]
  repeat (first | refine awp_seq ?_ | refine awp_region_lit rfl ?_ | refine awp_skip ?_ | with_reducible refine then_n ?_ | refine awp_cond_f rfl (by first | rfl | assumption | exact dF (by omega)) ?_ | (show AWL _ _ _ (⟨_, .move _, _, _, _, _⟩ :: _) _ _ _; refine awl_pw (wt_none rfl) (pv_move rfl rfl) rfl rfl ?_) | (show AWL _ _ _ (⟨_, .assign _, _, _, _, _⟩ :: _) _ _ _; refine awl_pw (wt_none rfl) (pv_assign rfl rfl) rfl rfl ?_) | (show AWL _ _ _ (⟨_, .load _ _, _, _, _, _⟩ :: _) _ _ _; refine awl_lw (wt_none rfl) (lv_cl1 T0 rfl rfl rfl rcA raA) rfl rfl rfl ?_) | (show AWL _ _ _ (⟨_, .load _ _, _, _, _, _⟩ :: _) _ _ _; refine awl_lw (wt_none rfl) (lv_cla T0 rfl rfl rfl rcA rfl) rfl rfl rfl ?_) | (show AWL _ _ _ (⟨_, .fieldAddr _ _ _, _, _, _, _⟩ :: _) _ _ _; refine awl_pw (wt_none rfl) (pv_fa T0 rfl rfl rfl (by simp; rfl)) rfl rfl ?_) | (show AWL _ _ _ (⟨_, .unOp .not _ _, _, _, _, _⟩ :: _) _ _ _; refine awl_pw (wt_none rfl) (pv_not rfl rfl) rfl rfl ?_) | (show AWL _ _ _ (⟨_, .store _ _ _, _, _, _, _⟩ :: _) _ _ _; refine awl_hw (wt_none rfl) (st_store T0 rfl rfl rfl rfl rfl (by first | assumption | (simp only [cellsA]; rfl)) rfl rfl rfl rcA rcA trivial ?_)) | refine awl_nil ?_)
  refine awl_hw (wt_none rfl) (st_bsl T0 rfl rfl rfl rfl rfl rcA rfl rfl rfl rfl (by simp only [List.map_cons, List.map_nil, cellsA]; rfl) ?_)
  intro g31
  refine awl_ghost (ghost_freeze (E := 3) (sz := 1) (n := 1) (rows := [[intA k]]) (d := 31) (fun q => [.sc (.int .i64 ([(k : Int)].getD q 0))]) rcA rfl rfl (intRows_tree [(k : Int)])) ?_
  skip
  refine awl_hw (wt_none rfl) (st_call T0 (hC) rfl rfl rfl rfl (by first | exact callee_lit | exact callee_v | exact callee_fn | assumption) rcA raA rfl ?_)
  rintro _ rfl
  skip
  refine awl_hw (wt_none rfl) (st_alloc T0 rfl rfl rfl rfl scA ?_)
  intro g9
  generalize hB : bndN (keepM m [(k : Int)]) = B at *
  by_cases e1 : 0 < B.1
  · have n1 := ess_yes (m := m) (f := Prod.fst) (k := k) ⟨hse, by rw [hB]; exact e1⟩
    have d3 := decide_eq_true e1
    by_cases e2 : 0 < B.2
    · have n2 := ess_yes (m := m) (f := Prod.snd) (k := k) ⟨hse, by rw [hB]; exact e2⟩
      have d4 := decide_eq_true e2
      repeat (first | refine awp_seq ?_ | refine awp_region_lit rfl ?_ | with_reducible refine then_n ?_ | refine awp_cond_t rfl (by first | rfl | assumption | exact dT (by omega)) ?_ | (show AWL _ _ _ (⟨_, .move _, _, _, _, _⟩ :: _) _ _ _; refine awl_pw (wt_none rfl) (pv_move rfl rfl) rfl rfl ?_) | (show AWL _ _ _ (⟨_, .load _ _, _, _, _, _⟩ :: _) _ _ _; refine awl_lw (wt_none rfl) (lv_cl1 T0 rfl rfl rfl rcA raA) rfl rfl rfl ?_) | (show AWL _ _ _ (⟨_, .fieldAddr _ _ _, _, _, _, _⟩ :: _) _ _ _; refine awl_pw (wt_none rfl) (pv_fa T0 rfl rfl rfl (by simp; rfl)) rfl rfl ?_) | (show AWL _ _ _ (⟨_, .binOp .gtr _ _ _ _, _, _, _, _⟩ :: _) _ _ _; refine awl_pw (wt_none rfl) (pv_gtr rfl rfl rfl) rfl rfl ?_) | (show AWL _ _ _ (⟨_, .store _ _ _, _, _, _, _⟩ :: _) _ _ _; refine awl_hw (wt_none rfl) (st_store T0 rfl rfl rfl rfl rfl (by first | assumption | (simp only [cellsA]; rfl)) rfl rfl rfl rcA rcA trivial ?_)) | refine awl_nil ?_)
      refine awl_hw (wt_none rfl) (st_bsl T0 rfl rfl rfl rfl rfl rcA rfl rfl rfl rfl (by simp only [List.map_cons, List.map_nil, cellsA]; rfl) ?_)
      intro g38
      skip
      refine awl_hw (wt_none rfl) (st_app T0 rfl rfl rfl rfl rfl rfl rfl rfl rfl rcA rcA rfl rfl l1 (by omega) (fun _ _ => trivial) ?_)
      intro a39 c39 p39
      repeat (first | refine awp_seq ?_ | refine awp_region_lit rfl ?_ | with_reducible refine then_n ?_ | refine awp_cond_t rfl (by first | rfl | assumption | exact dT (by omega)) ?_ | (show AWL _ _ _ (⟨_, .move _, _, _, _, _⟩ :: _) _ _ _; refine awl_pw (wt_none rfl) (pv_move rfl rfl) rfl rfl ?_) | (show AWL _ _ _ (⟨_, .assign _, _, _, _, _⟩ :: _) _ _ _; refine awl_pw (wt_none rfl) (pv_assign rfl rfl) rfl rfl ?_) | (show AWL _ _ _ (⟨_, .load _ _, _, _, _, _⟩ :: _) _ _ _; refine awl_lw (wt_none rfl) (lv_cl1 T0 rfl rfl rfl rcA raA) rfl rfl rfl ?_) | (show AWL _ _ _ (⟨_, .fieldAddr _ _ _, _, _, _, _⟩ :: _) _ _ _; refine awl_pw (wt_none rfl) (pv_fa T0 rfl rfl rfl (by simp; rfl)) rfl rfl ?_) | (show AWL _ _ _ (⟨_, .binOp .gtr _ _ _ _, _, _, _, _⟩ :: _) _ _ _; refine awl_pw (wt_none rfl) (pv_gtr rfl rfl rfl) rfl rfl ?_) | refine awl_nil ?_)
      refine awl_hw (wt_none rfl) (st_bsl T0 rfl rfl rfl rfl rfl rcA rfl rfl rfl rfl (by simp only [List.map_cons, List.map_nil, cellsA]; rfl) ?_)
      intro g45
      skip
      refine awl_hw (wt_none rfl) (st_app T0 rfl rfl rfl rfl rfl rfl rfl rfl rfl rcA rcA rfl rfl l2 (by omega) (fun _ _ => trivial) ?_)
      intro a46 c46 p46
      repeat (first | refine awp_region_lit rfl ?_ | (show AWL _ _ _ (⟨_, .move _, _, _, _, _⟩ :: _) _ _ _; refine awl_pw (wt_none rfl) (pv_move rfl rfl) rfl rfl ?_) | (show AWL _ _ _ (⟨_, .assign _, _, _, _, _⟩ :: _) _ _ _; refine awl_pw (wt_none rfl) (pv_assign rfl rfl) rfl rfl ?_) | (show AWL _ _ _ (⟨_, .binOp .add _ _ _ _, _, _, _, _⟩ :: _) _ _ _; refine awl_pw (wt_none rfl) (pv_add rfl rfl rfl (by first | assumption | exact wr64 (by omega))) rfl rfl ?_) | refine awl_nil ?_)
      rw [show (essL m Prod.fst k).map intRow ++ [[intA (k : Int)]] = (essL m Prod.fst (k + 1)).map intRow from by rw [n1, List.map_append]; rfl, show (essL m Prod.fst k).length + 1 = (essL m Prod.fst (k + 1)).length from by rw [n1, List.length_append]; rfl]
      rw [show (essL m Prod.snd k).map intRow ++ [[intA (k : Int)]] = (essL m Prod.snd (k + 1)).map intRow from by rw [n2, List.map_append]; rfl, show (essL m Prod.snd k).length + 1 = (essL m Prod.snd (k + 1)).length from by rw [n2, List.length_append]; rfl]
      refine rnd_n _ _ _ ?_ ⟨k + 1, a39, c39, a46, c46, hkt, rfl, rfl, rfl⟩ ssA rcA
      omega
    · have n2 := ess_no (m := m) (f := Prod.snd) (k := k) (fun h => by rw [hB] at h; exact e2 h.2)
      have d4 := decide_eq_false e2
      repeat (first | refine awp_seq ?_ | refine awp_region_lit rfl ?_ | with_reducible refine then_n ?_ | refine awp_cond_t rfl (by first | rfl | assumption | exact dT (by omega)) ?_ | (show AWL _ _ _ (⟨_, .move _, _, _, _, _⟩ :: _) _ _ _; refine awl_pw (wt_none rfl) (pv_move rfl rfl) rfl rfl ?_) | (show AWL _ _ _ (⟨_, .load _ _, _, _, _, _⟩ :: _) _ _ _; refine awl_lw (wt_none rfl) (lv_cl1 T0 rfl rfl rfl rcA raA) rfl rfl rfl ?_) | (show AWL _ _ _ (⟨_, .fieldAddr _ _ _, _, _, _, _⟩ :: _) _ _ _; refine awl_pw (wt_none rfl) (pv_fa T0 rfl rfl rfl (by simp; rfl)) rfl rfl ?_) | (show AWL _ _ _ (⟨_, .binOp .gtr _ _ _ _, _, _, _, _⟩ :: _) _ _ _; refine awl_pw (wt_none rfl) (pv_gtr rfl rfl rfl) rfl rfl ?_) | (show AWL _ _ _ (⟨_, .store _ _ _, _, _, _, _⟩ :: _) _ _ _; refine awl_hw (wt_none rfl) (st_store T0 rfl rfl rfl rfl rfl (by first | assumption | (simp only [cellsA]; rfl)) rfl rfl rfl rcA rcA trivial ?_)) | refine awl_nil ?_)
      refine awl_hw (wt_none rfl) (st_bsl T0 rfl rfl rfl rfl rfl rcA rfl rfl rfl rfl (by simp only [List.map_cons, List.map_nil, cellsA]; rfl) ?_)
      intro g38
      skip
      refine awl_hw (wt_none rfl) (st_app T0 rfl rfl rfl rfl rfl rfl rfl rfl rfl rcA rcA rfl rfl l1 (by omega) (fun _ _ => trivial) ?_)
      intro a39 c39 p39
      repeat (first | refine awp_seq ?_ | refine awp_region_lit rfl ?_ | refine awp_skip ?_ | with_reducible refine then_n ?_ | refine awp_cond_f rfl (by first | rfl | assumption | exact dF (by omega)) ?_ | (show AWL _ _ _ (⟨_, .move _, _, _, _, _⟩ :: _) _ _ _; refine awl_pw (wt_none rfl) (pv_move rfl rfl) rfl rfl ?_) | (show AWL _ _ _ (⟨_, .assign _, _, _, _, _⟩ :: _) _ _ _; refine awl_pw (wt_none rfl) (pv_assign rfl rfl) rfl rfl ?_) | (show AWL _ _ _ (⟨_, .load _ _, _, _, _, _⟩ :: _) _ _ _; refine awl_lw (wt_none rfl) (lv_cl1 T0 rfl rfl rfl rcA raA) rfl rfl rfl ?_) | (show AWL _ _ _ (⟨_, .fieldAddr _ _ _, _, _, _, _⟩ :: _) _ _ _; refine awl_pw (wt_none rfl) (pv_fa T0 rfl rfl rfl (by simp; rfl)) rfl rfl ?_) | (show AWL _ _ _ (⟨_, .binOp .add _ _ _ _, _, _, _, _⟩ :: _) _ _ _; refine awl_pw (wt_none rfl) (pv_add rfl rfl rfl (by first | assumption | exact wr64 (by omega))) rfl rfl ?_) | (show AWL _ _ _ (⟨_, .binOp .gtr _ _ _ _, _, _, _, _⟩ :: _) _ _ _; refine awl_pw (wt_none rfl) (pv_gtr rfl rfl rfl) rfl rfl ?_) | refine awl_nil ?_)
      rw [show (essL m Prod.fst k).map intRow ++ [[intA (k : Int)]] = (essL m Prod.fst (k + 1)).map intRow from by rw [n1, List.map_append]; rfl, show (essL m Prod.fst k).length + 1 = (essL m Prod.fst (k + 1)).length from by rw [n1, List.length_append]; rfl]
      rw [← n2]
      refine rnd_n _ _ _ ?_ ⟨k + 1, a39, c39, a2, c2, hkt, rfl, rfl, rfl⟩ ssA rcA
      omega
  · have n1 := ess_no (m := m) (f := Prod.fst) (k := k) (fun h => by rw [hB] at h; exact e1 h.2)
    have d3 := decide_eq_false e1
    by_cases e2 : 0 < B.2
    · have n2 := ess_yes (m := m) (f := Prod.snd) (k := k) ⟨hse, by rw [hB]; exact e2⟩
      have d4 := decide_eq_true e2
      repeat (first | refine awp_seq ?_ | refine awp_region_lit rfl ?_ | refine awp_skip ?_ | with_reducible refine then_n ?_ | refine awp_cond_t rfl (by first | rfl | assumption | exact dT (by omega)) ?_ | refine awp_cond_f rfl (by first | rfl | assumption | exact dF (by omega)) ?_ | (show AWL _ _ _ (⟨_, .move _, _, _, _, _⟩ :: _) _ _ _; refine awl_pw (wt_none rfl) (pv_move rfl rfl) rfl rfl ?_) | (show AWL _ _ _ (⟨_, .load _ _, _, _, _, _⟩ :: _) _ _ _; refine awl_lw (wt_none rfl) (lv_cl1 T0 rfl rfl rfl rcA raA) rfl rfl rfl ?_) | (show AWL _ _ _ (⟨_, .fieldAddr _ _ _, _, _, _, _⟩ :: _) _ _ _; refine awl_pw (wt_none rfl) (pv_fa T0 rfl rfl rfl (by simp; rfl)) rfl rfl ?_) | (show AWL _ _ _ (⟨_, .binOp .gtr _ _ _ _, _, _, _, _⟩ :: _) _ _ _; refine awl_pw (wt_none rfl) (pv_gtr rfl rfl rfl) rfl rfl ?_) | (show AWL _ _ _ (⟨_, .store _ _ _, _, _, _, _⟩ :: _) _ _ _; refine awl_hw (wt_none rfl) (st_store T0 rfl rfl rfl rfl rfl (by first | assumption | (simp only [cellsA]; rfl)) rfl rfl rfl rcA rcA trivial ?_)) | refine awl_nil ?_)
      refine awl_hw (wt_none rfl) (st_bsl T0 rfl rfl rfl rfl rfl rcA rfl rfl rfl rfl (by simp only [List.map_cons, List.map_nil, cellsA]; rfl) ?_)
      intro g45
      skip
      refine awl_hw (wt_none rfl) (st_app T0 rfl rfl rfl rfl rfl rfl rfl rfl rfl rcA rcA rfl rfl l2 (by omega) (fun _ _ => trivial) ?_)
      intro a46 c46 p46
      repeat (first | refine awp_region_lit rfl ?_ | (show AWL _ _ _ (⟨_, .move _, _, _, _, _⟩ :: _) _ _ _; refine awl_pw (wt_none rfl) (pv_move rfl rfl) rfl rfl ?_) | (show AWL _ _ _ (⟨_, .assign _, _, _, _, _⟩ :: _) _ _ _; refine awl_pw (wt_none rfl) (pv_assign rfl rfl) rfl rfl ?_) | (show AWL _ _ _ (⟨_, .binOp .add _ _ _ _, _, _, _, _⟩ :: _) _ _ _; refine awl_pw (wt_none rfl) (pv_add rfl rfl rfl (by first | assumption | exact wr64 (by omega))) rfl rfl ?_) | refine awl_nil ?_)
      rw [← n1]
      rw [show (essL m Prod.snd k).map intRow ++ [[intA (k : Int)]] = (essL m Prod.snd (k + 1)).map intRow from by rw [n2, List.map_append]; rfl, show (essL m Prod.snd k).length + 1 = (essL m Prod.snd (k + 1)).length from by rw [n2, List.length_append]; rfl]
      refine rnd_n _ _ _ ?_ ⟨k + 1, a1, c1, a46, c46, hkt, rfl, rfl, rfl⟩ ssA rcA
      omega
    · have n2 := ess_no (m := m) (f := Prod.snd) (k := k) (fun h => by rw [hB] at h; exact e2 h.2)
      have d4 := decide_eq_false e2
      repeat (first | refine awp_seq ?_ | refine awp_region_lit rfl ?_ | refine awp_skip ?_ | with_reducible refine then_n ?_ | refine awp_cond_f rfl (by first | rfl | assumption | exact dF (by omega)) ?_ | (show AWL _ _ _ (⟨_, .move _, _, _, _, _⟩ :: _) _ _ _; refine awl_pw (wt_none rfl) (pv_move rfl rfl) rfl rfl ?_) | (show AWL _ _ _ (⟨_, .load _ _, _, _, _, _⟩ :: _) _ _ _; refine awl_lw (wt_none rfl) (lv_cl1 T0 rfl rfl rfl rcA raA) rfl rfl rfl ?_) | (show AWL _ _ _ (⟨_, .fieldAddr _ _ _, _, _, _, _⟩ :: _) _ _ _; refine awl_pw (wt_none rfl) (pv_fa T0 rfl rfl rfl (by simp; rfl)) rfl rfl ?_) | (show AWL _ _ _ (⟨_, .binOp .add _ _ _ _, _, _, _, _⟩ :: _) _ _ _; refine awl_pw (wt_none rfl) (pv_add rfl rfl rfl (by first | assumption | exact wr64 (by omega))) rfl rfl ?_) | (show AWL _ _ _ (⟨_, .binOp .gtr _ _ _ _, _, _, _, _⟩ :: _) _ _ _; refine awl_pw (wt_none rfl) (pv_gtr rfl rfl rfl) rfl rfl ?_) | (show AWL _ _ _ (⟨_, .store _ _ _, _, _, _, _⟩ :: _) _ _ _; refine awl_hw (wt_none rfl) (st_store T0 rfl rfl rfl rfl rfl (by first | assumption | (simp only [cellsA]; rfl)) rfl rfl rfl rcA rcA trivial ?_)) | refine awl_nil ?_)
      rw [← n1]
      rw [← n2]
      refine rnd_n _ _ _ ?_ ⟨k + 1, a1, c1, a2, c2, hkt, rfl, rfl, rfl⟩ ssA rcA
      omega
end Go.Proofs.Ytlpknbneilgjkaa.C
end
