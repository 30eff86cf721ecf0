/- Houses by bits: walks of Without (Try.func56), Keeping (Try.func54). -/
import Derived.Test.YtallicfckbdeaaaLk
import Derived.Test.YtallicfckbdeaaaGHf
import Derived.Test.YtallicfckbdeaaaGTs
import Derived.Test.YtallicfckbdeaaaGPa
import Derived.Test.YtallicfckbdeaaaGOb
namespace Go.Proofs.Ytallicfckbdeaaa
open Go Go.RowKit Go.Tl
set_option linter.unusedVariables false
set_option linter.unusedSimpArgs false
set_option maxRecDepth 100000
set_option maxHeartbeats 4000000
theorem list_eq_of {α : Type} {d : α} {xs ys : List α} (hl : xs.length = ys.length) (h : ∀ k, k < xs.length → xs.getD k d = ys.getD k d) : xs = ys :=
  List.ext_getElem hl fun j h1 h2 => by
    have := h j h1
    simpa [List.getD_eq_getElem?_getD, h1, h2] using this
theorem bits_len (m : Nat) : ∀ k, (bitsL m k).length ≤ k
  | 0 => Nat.le_refl _
  | k + 1 => by
    have := bits_len m k
    simp only [bitsL, List.length_append]
    split
    · simp; omega
    · simp; omega
/-- houses, those with a bit changed -/
def bitH (f : HouD → HouD) (hs : List HouD) (b k : Nat) : List HouD := (List.range k).map fun i => if b.testBit i = true then f (hs.getD i default) else hs.getD i default
theorem bitH_len (f : HouD → HouD) (hs : List HouD) (b k : Nat) : (bitH f hs b k).length = k := by simp [bitH]
theorem bitH_at {f : HouD → HouD} {hs : List HouD} {b k i : Nat} (h : i < k) : (bitH f hs b k).getD i default = if b.testBit i = true then f (hs.getD i default) else hs.getD i default := by simp [bitH, List.getD_eq_getElem?_getD, h]
theorem bitH_step (f : HouD → HouD) (hs : List HouD) (b k : Nat) : bitH f hs b (k + 1) = bitH f hs b k ++ [if b.testBit k = true then f (hs.getD k default) else hs.getD k default] := by simp [bitH, List.range_succ]
theorem bits_nn {b k : Nat} : ∀ x ∈ bitsL b k, 0 ≤ x := fun x hx => by
  obtain ⟨i, rfl, _⟩ := bits_mem.1 hx
  omega
theorem bit_in {b n k : Nat} (hk : k < n) : ((k : Int) ∈ bitsL b n) ↔ b.testBit k = true := by
  rw [bits_mem]
  constructor
  · rintro ⟨i, h1, h2, h3⟩
    obtain rfl : k = i := by omega
    exact h3
  · exact fun h => ⟨k, rfl, hk, h⟩
theorem bitH_out (m : MktD) (b : Nat) : bitH (any1 m.ex) m.hou b m.hou.length = outL m.ex m.hou (bitsL b m.hou.length) := by
  refine list_eq_of (d := default) (by rw [bitH_len, out_len]) fun k hk => ?_
  rw [bitH_len] at hk
  rw [bitH_at hk, out_at hk bits_nn]
  by_cases c : b.testBit k = true
  · rw [if_pos c, if_pos ((bit_in hk).2 c)]
  · rw [if_neg c, if_neg (fun h => c ((bit_in hk).1 h))]
theorem bitH_keep (m : MktD) (b : Nat) : bitH noSell m.hou b m.hou.length = keepL m.hou (bitsL b m.hou.length) := by
  refine list_eq_of (d := default) (by rw [bitH_len, keep_len]) fun k hk => ?_
  rw [bitH_len] at hk
  rw [bitH_at hk, keep_at hk bits_nn]
  by_cases c : b.testBit k = true
  · rw [if_pos c, if_pos ((bit_in hk).2 c)]
  · rw [if_neg c, if_neg (fun h => c ((bit_in hk).1 h))]
/-- whether the first houses with a bit sell -/
def sellK (m : MktD) (b : Nat) : Nat → Bool
  | 0 => true
  | k + 1 => if b.testBit k = true then sellK m b k && (m.hou.getD k default).sells else sellK m b k
theorem sellK_iff {m : MktD} {b : Nat} : ∀ {k : Nat}, sellK m b k = true ↔ ∀ x ∈ bitsL b k, sellB m x.toNat = true
  | 0 => by simp [sellK, bitsL]
  | k + 1 => by
    have ih := sellK_iff (m := m) (b := b) (k := k)
    simp only [sellK, bitsL]
    by_cases c : b.testBit k = true
    · rw [if_pos c, if_pos c, Bool.and_eq_true, ih]
      constructor
      · rintro ⟨h1, h2⟩ x hx
        rcases List.mem_append.1 hx with hx | hx
        · exact h1 x hx
        · rw [List.mem_singleton.1 hx]; exact h2
      · intro h
        exact ⟨fun x hx => h x (List.mem_append_left _ hx), h (k : Int) (by simp)⟩
    · rw [if_neg c, if_neg c, ih, List.append_nil]
attribute [local irreducible] AWP AWL AOp PV LV AWT AWE
theorem without_q (cp cc : Bool) (m : MktD) (b : Nat) (hv : VMkt m) (hb : b < 100000) : PCall Try.prog 56 [mktA cp cc m, intA b] (fun r => r = .tup [mktA true cc (outM m (bitsL b m.hou.length)), .t (intsT true (bitsL b m.hou.length))]) := by
  have hlen := hv.len
  refine acall_of_awp T0 Try.func56 rfl rfl rfl ?_
  repeat (first | refine awp_seq ?_ | refine awp_region_lit rfl ?_)
  refine awl_hw wtA (st_box rfl rfl raA (by first | assumption | (simp only [cellsA]; rfl)) rfl rfl ?_)
  intro g2
  skip
  refine awl_hw wtA (st_alloc T0 rfl rfl rfl rfl scA ?_)
  intro g4
  repeat (first | refine awp_seq ?_ | refine awp_region_lit rfl ?_ | ((first | (show AWL _ _ _ (⟨_, .assign _, _, _, _, _⟩ :: _) _ _ _; refine awl_pw ?wtq (pv_assign rfl rfl) rfl rfl ?_) | (show AWL _ _ _ (⟨_, .load _ _, _, _, _, _⟩ :: _) _ _ _; refine awl_lw ?wtq (lv_cla T0 rfl rfl rfl rcA rfl) rfl rfl rfl ?_)); case wtq => exact wtA) | refine awl_nil ?_)
  refine awl_hw wtA (st_alloc T0 rfl rfl rfl rfl scA ?_)
  intro g6
  repeat (first | refine awp_seq ?_ | refine awp_block ?_ | refine awp_region_lit rfl ?_ | ((first | (show AWL _ _ _ (⟨_, .assign _, _, _, _, _⟩ :: _) _ _ _; refine awl_pw ?wtq (pv_assign rfl rfl) rfl rfl ?_) | (show AWL _ _ _ (⟨_, .fieldAddr _ _ _, _, _, _, _⟩ :: _) _ _ _; refine awl_pw ?wtq (pv_fa T0 rfl rfl rfl (by simp; rfl)) rfl rfl ?_)); case wtq => exact wtA) | (show AWL _ _ _ (⟨_, .store _ _ _, _, _, _, _⟩ :: _) _ _ _; refine awl_hw wtA (st_store T0 rfl rfl rfl rfl rfl (by first | assumption | (simp only [cellsA]; rfl)) rfl rfl rfl rcA rcA trivial ?_)) | refine awl_nil ?_)
  refine awp_ghost (ghost_nilrow 88 4) ?_
  refine awp_ghost (ghost_nilrow 3 1) ?_
  refine awp_loop (fun q s h => ∃ (k N : Nat) (a : Option Addr) (c : Nat) (a' : Option Addr) (c' : Nat) (rows : List (List AV)), k ≤ m.hou.length ∧ q = m.hou.length - k ∧ N = (bitsL b k).length ∧ rows = (bitsL b k).map intRow ∧ rows.length = N ∧
    s = [(1, intA b), (2, .v (ptrV g2)), (4, .v (ptrV g4)), (6, .v (ptrV g6)), (7, .v (.slice a' N c')), (8, intA k)] ∧ h = [.cl g2 25 [intA m.ex, .t (housT cp m.hou), .t (consT cc m.con)], .cl g4 25 [intA 0, .v (.slice none 0 0), .v (.slice none 0 0)], .cl g6 25 [intA m.ex, .v (.slice a k c), .t (consT cc m.con)], .rw (.slice a k c) 88 4 ((bitH (any1 m.ex) m.hou b k).map houRow), .rw (.slice a' N c') 3 1 rows]) ?_ ⟨0, 0, _, _, _, _, [], Nat.zero_le _, rfl, rfl, rfl, rfl, rfl, rfl⟩ ssA rcA
  rintro q s h ⟨k, N, a, c, a', c', rows, hk, rfl, hN, hrows, hrl, rfl, rfl⟩
  have hbk := bits_len b k
  have hhl : ((bitH (any1 m.ex) m.hou b k).map houRow).length = k := by rw [List.length_map, bitH_len]
  by_cases hlt : k < m.hou.length
  case neg =>
    obtain rfl : k = m.hou.length := by omega
    have htree := rows_tree (d := default) (bitH (any1 m.ex) m.hou b m.hou.length) houRow houL (fun _ => rfl)
    rw [bitH_len] at htree
    refine awp_ghost (ghost_freeze_cell (g := g6) (j := 1) (v := .slice a m.hou.length c) (E := 88) (sz := 4) (n := m.hou.length) (rows := (bitH (any1 m.ex) m.hou b m.hou.length).map houRow) (fun q => houL ((bitH (any1 m.ex) m.hou b m.hou.length).getD q default)) rcA rcA rfl rfl hhl htree) ?_
    refine awp_ghost (ghost_freeze (E := 3) (sz := 1) (n := N) (rows := rows) (d := 7) (fun q => [.sc (.int .i64 ((bitsL b m.hou.length).getD q 0))]) rcA rfl hrl (by rw [hrows, hN]; exact intRows_tree _)) ?_
    have hT : Tr.sl true 4 m.hou.length (fun q => houL ((bitH (any1 m.ex) m.hou b m.hou.length).getD q default)) = housT true (outL m.ex m.hou (bitsL b m.hou.length)) := by
      unfold housT
      rw [out_len, bitH_out]
    rw [hT]
    repeat (first | refine awp_seq ?_ | refine awp_region_lit rfl ?_ | refine awp_exit ?_ | refine awp_ret ?_ | refine then_n ?_ | refine awp_cond_f rfl (by first | rfl | assumption | exact dF (by omega)) ?_ | ((first | (show AWL _ _ _ (⟨_, .move _, _, _, _, _⟩ :: _) _ _ _; refine awl_pw ?wtq (pv_move rfl rfl) rfl rfl ?_) | (show AWL _ _ _ (⟨_, .assign _, _, _, _, _⟩ :: _) _ _ _; refine awl_pw ?wtq (pv_assign rfl rfl) rfl rfl ?_) | (show AWL _ _ _ (⟨_, .load _ _, _, _, _, _⟩ :: _) _ _ _; refine awl_lw ?wtq (lv_cl1 T0 rfl rfl rfl rcA raA) rfl rfl rfl ?_) | (show AWL _ _ _ (⟨_, .load _ _, _, _, _, _⟩ :: _) _ _ _; refine awl_lw ?wtq (lv_cla T0 rfl rfl rfl rcA rfl) rfl rfl rfl ?_) | (show AWL _ _ _ (⟨_, .fieldAddr _ _ _, _, _, _, _⟩ :: _) _ _ _; refine awl_pw ?wtq (pv_fa T0 rfl rfl rfl (by simp; rfl)) rfl rfl ?_) | (show AWL _ _ _ (⟨_, .binOp .lss _ _ _ _, _, _, _, _⟩ :: _) _ _ _; refine awl_pw ?wtq (pv_lss rfl rfl rfl) rfl rfl ?_) | (show AWL _ _ _ (⟨_, .call ⟨.builtin .len, _, _⟩, _, _, _, _⟩ :: _) _ _ _; refine awl_pw ?wtq (pv_len_t T0 rfl rfl rfl) rfl rfl ?_)); case wtq => exact wtA) | (show AWL _ _ _ (⟨_, .store _ _ _, _, _, _, _⟩ :: _) _ _ _; refine awl_hw wtA (st_store T0 rfl rfl rfl rfl rfl (by first | assumption | (simp only [cellsA]; rfl)) rfl rfl rfl rcA rcA trivial ?_)) | refine awl_nil ?_)
    subst hN
    refine body_p (res_cell rfl rfl rcA rfl rfl rfl (.cons rfl .nil)) ?_
    rfl
  have hs1 := bit_fdiv b (i := (k : Int)) (j := k) rfl (by omega)
  have hr1 := bit_rem (b / 2 ^ k)
  have hd1 := bit_dec b k
  repeat (first | refine awp_seq ?_ | refine awp_block ?_ | refine awp_region_lit rfl ?_ | refine awp_skip ?_ | refine then_n ?_ | refine awp_cond_t rfl (by first | rfl | assumption | exact dT (by omega)) ?_ | ((first | (show AWL _ _ _ (⟨_, .move _, _, _, _, _⟩ :: _) _ _ _; refine awl_pw ?wtq (pv_move rfl rfl) rfl rfl ?_) | (show AWL _ _ _ (⟨_, .load _ _, _, _, _, _⟩ :: _) _ _ _; refine awl_lw ?wtq (lv_cl1 T0 rfl rfl rfl rcA raA) rfl rfl rfl ?_) | (show AWL _ _ _ (⟨_, .load _ _, _, _, _, _⟩ :: _) _ _ _; refine awl_lw ?wtq (lv_elt_ag T0 rfl rfl rfl rfl rcA) rfl rfl rfl ?_) | (show AWL _ _ _ (⟨_, .fieldAddr _ _ _, _, _, _, _⟩ :: _) _ _ _; refine awl_pw ?wtq (pv_fa T0 rfl rfl rfl (by simp; rfl)) rfl rfl ?_) | (show AWL _ _ _ (⟨_, .indexAddr _ _ _, _, _, _, _⟩ :: _) _ _ _; refine awl_pw ?wtq (pv_ix_t T0 rfl rfl rfl rfl (by omega) ixA) rfl rfl ?_) | (show AWL _ _ _ (⟨_, .binOp .lss _ _ _ _, _, _, _, _⟩ :: _) _ _ _; refine awl_pw ?wtq (pv_lss rfl rfl rfl) rfl rfl ?_) | (show AWL _ _ _ (⟨_, .call ⟨.builtin .len, _, _⟩, _, _, _, _⟩ :: _) _ _ _; refine awl_pw ?wtq (pv_len_t T0 rfl rfl rfl) rfl rfl ?_)); case wtq => exact wtA) | refine awl_nil ?_)
  refine awl_hw wtA (st_alloc T0 rfl rfl rfl rfl scA ?_)
  intro g9
  repeat (first | refine awp_seq ?_ | refine awp_region_lit rfl ?_ | ((first | (show AWL _ _ _ (⟨_, .move _, _, _, _, _⟩ :: _) _ _ _; refine awl_pw ?wtq (pv_move rfl rfl) rfl rfl ?_)); case wtq => exact wtA) | (show AWL _ _ _ (⟨_, .store _ _ _, _, _, _, _⟩ :: _) _ _ _; refine awl_hw wtA (st_store T0 rfl rfl rfl rfl rfl (by first | assumption | (simp only [cellsA]; rfl)) rfl rfl rfl rcA rcA trivial ?_)) | refine awl_nil ?_)
  refine awl_pw (wt_none rfl) (pv_convert rfl rfl Try.underlying3 Try.underlying92 (wu64 (by omega))) rfl rfl ?_
  refine awl_pw (wt_none rfl) (pv_shr rfl rfl rfl (by omega) hs1) rfl rfl ?_
  repeat (first | refine then_n ?_ | ((first | (show AWL _ _ _ (⟨_, .binOp .rem _ _ _ _, _, _, _, _⟩ :: _) _ _ _; refine awl_pw ?wtq (pv_rem rfl rfl rfl (by omega) (by first | assumption | rfl)) rfl rfl ?_) | (show AWL _ _ _ (⟨_, .binOp .eql _ _ _ _, _, _, _, _⟩ :: _) _ _ _; refine awl_pw ?wtq (pv_eql rfl rfl rfl) rfl rfl ?_)); case wtq => exact wtA) | refine awl_nil ?_)
  rw [hd1]
  cases e1 : b.testBit k
  · have hst : bitsL b (k + 1) = bitsL b k := by simp only [bitsL, e1]; simp
    have hst2 : bitH (any1 m.ex) m.hou b (k + 1) = bitH (any1 m.ex) m.hou b k ++ [m.hou.getD k default] := by rw [bitH_step, e1]; rfl
    repeat (first | refine awp_region_lit rfl ?_ | refine awp_skip ?_ | refine awp_cond_f rfl (by first | rfl | assumption | exact dF (by omega)) ?_ | ((first | (show AWL _ _ _ (⟨_, .load _ _, _, _, _, _⟩ :: _) _ _ _; refine awl_lw ?wtq (lv_cl1 T0 rfl rfl rfl rcA raA) rfl rfl rfl ?_) | (show AWL _ _ _ (⟨_, .load _ _, _, _, _, _⟩ :: _) _ _ _; refine awl_lw ?wtq (lv_cla T0 rfl rfl rfl rcA rfl) rfl rfl rfl ?_) | (show AWL _ _ _ (⟨_, .fieldAddr _ _ _, _, _, _, _⟩ :: _) _ _ _; refine awl_pw ?wtq (pv_fa T0 rfl rfl rfl (by simp; rfl)) rfl rfl ?_)); case wtq => exact wtA))
    refine awl_hw wtA (st_bsl T0 rfl rfl rfl rfl rfl rcA rfl rfl rfl rfl (by simp only [List.map_cons, List.map_nil, cellsA]; rfl) ?_)
    intro g41
    skip
    refine awl_hw wtA (st_app T0 rfl rfl rfl rfl rfl rfl rfl rfl rfl rcA rcA rfl rfl hhl (by omega) (fun _ _ => trivial) ?_)
    intro a42 c42 p42
    repeat (first | refine awp_region_lit rfl ?_ | ((first | (show AWL _ _ _ (⟨_, .move _, _, _, _, _⟩ :: _) _ _ _; refine awl_pw ?wtq (pv_move rfl rfl) rfl rfl ?_) | (show AWL _ _ _ (⟨_, .assign _, _, _, _, _⟩ :: _) _ _ _; refine awl_pw ?wtq (pv_assign rfl rfl) rfl rfl ?_) | (show AWL _ _ _ (⟨_, .fieldAddr _ _ _, _, _, _, _⟩ :: _) _ _ _; refine awl_pw ?wtq (pv_fa T0 rfl rfl rfl (by simp; rfl)) rfl rfl ?_) | (show AWL _ _ _ (⟨_, .binOp .add _ _ _ _, _, _, _, _⟩ :: _) _ _ _; refine awl_pw ?wtq (pv_add rfl rfl rfl (by first | assumption | exact wr64 (by omega))) rfl rfl ?_)); case wtq => exact wtA) | (show AWL _ _ _ (⟨_, .store _ _ _, _, _, _, _⟩ :: _) _ _ _; refine awl_hw wtA (st_store T0 rfl rfl rfl rfl rfl (by first | assumption | (simp only [cellsA]; rfl)) rfl rfl rfl rcA rcA trivial ?_)) | refine awl_nil ?_)
    rw [show (bitH (any1 m.ex) m.hou b k).map houRow ++ [[AV.v (Value.int .i64 (m.hou.getD k default).lo), AV.v (Value.int .i64 (m.hou.getD k default).hi), AV.v (Value.bool (m.hou.getD k default).sells), AV.v (Value.int .i64 (m.hou.getD k default).ask)]] = (bitH (any1 m.ex) m.hou b (k + 1)).map houRow from by rw [hst2, List.map_append]; rfl]
    refine rnd_n _ _ _ ?_ ⟨k + 1, N, a42, c42, a', c', rows, hlt, rfl, by rw [hst]; exact hN, by rw [hst]; exact hrows, hrl, rfl, rfl⟩ ssA rcA
    omega
  · have hst : bitsL b (k + 1) = bitsL b k ++ [(k : Int)] := by simp only [bitsL, e1]; simp
    have hst2 : bitH (any1 m.ex) m.hou b (k + 1) = bitH (any1 m.ex) m.hou b k ++ [any1 m.ex (m.hou.getD k default)] := by rw [bitH_step, e1]; rfl
    repeat (first | refine awp_seq ?_ | refine awp_region_lit rfl ?_ | refine awp_cond_t rfl (by first | rfl | assumption | exact dT (by omega)) ?_ | ((first | (show AWL _ _ _ (⟨_, .move _, _, _, _, _⟩ :: _) _ _ _; refine awl_pw ?wtq (pv_move rfl rfl) rfl rfl ?_) | (show AWL _ _ _ (⟨_, .load _ _, _, _, _, _⟩ :: _) _ _ _; refine awl_lw ?wtq (lv_cl1 T0 rfl rfl rfl rcA raA) rfl rfl rfl ?_) | (show AWL _ _ _ (⟨_, .fieldAddr _ _ _, _, _, _, _⟩ :: _) _ _ _; refine awl_pw ?wtq (pv_fa T0 rfl rfl rfl (by simp; rfl)) rfl rfl ?_) | (show AWL _ _ _ (⟨_, .build _ _, _, _, _, _⟩ :: _) _ _ _; refine awl_pw ?wtq (pv_build T0 rfl rfl rfl scA (by first | ((repeat' (first | exact BParts.nil | apply BParts.cons | rfl)); all_goals fail) | fail) (by first | ((repeat' (first | exact FillA.nil | exact Sp.done | apply FillA.cons | apply Sp.put | apply Sp.skip | (simp only [cellsA]; rfl) | rfl)); all_goals fail) | fail)) rfl rfl ?_)); case wtq => exact wtA) | (show AWL _ _ _ (⟨_, .store _ _ _, _, _, _, _⟩ :: _) _ _ _; refine awl_hw wtA (st_store T0 rfl rfl rfl rfl rfl (by first | assumption | (simp only [cellsA]; rfl)) rfl rfl rfl rcA rcA trivial ?_)) | refine awl_nil ?_)
    refine awl_hw wtA (st_bsl T0 rfl rfl rfl rfl rfl rcA rfl rfl rfl rfl (by simp only [List.map_cons, List.map_nil, cellsA]; rfl) ?_)
    intro g36
    skip
    refine awl_hw wtA (st_app T0 rfl rfl rfl rfl rfl rfl rfl rfl rfl rcA rcA rfl rfl hrl (by omega) (fun _ _ => trivial) ?_)
    intro a37 c37 p37
    repeat (first | refine awp_region_lit rfl ?_ | ((first | (show AWL _ _ _ (⟨_, .assign _, _, _, _, _⟩ :: _) _ _ _; refine awl_pw ?wtq (pv_assign rfl rfl) rfl rfl ?_) | (show AWL _ _ _ (⟨_, .load _ _, _, _, _, _⟩ :: _) _ _ _; refine awl_lw ?wtq (lv_cl1 T0 rfl rfl rfl rcA raA) rfl rfl rfl ?_) | (show AWL _ _ _ (⟨_, .load _ _, _, _, _, _⟩ :: _) _ _ _; refine awl_lw ?wtq (lv_cla T0 rfl rfl rfl rcA rfl) rfl rfl rfl ?_) | (show AWL _ _ _ (⟨_, .fieldAddr _ _ _, _, _, _, _⟩ :: _) _ _ _; refine awl_pw ?wtq (pv_fa T0 rfl rfl rfl (by simp; rfl)) rfl rfl ?_)); case wtq => exact wtA) | refine awl_nil ?_)
    refine awl_hw wtA (st_bsl T0 rfl rfl rfl rfl rfl rcA rfl rfl rfl rfl (by simp only [List.map_cons, List.map_nil, cellsA]; rfl) ?_)
    intro g41
    skip
    refine awl_hw wtA (st_app T0 rfl rfl rfl rfl rfl rfl rfl rfl rfl rcA rcA rfl rfl hhl (by omega) (fun _ _ => trivial) ?_)
    intro a42 c42 p42
    repeat (first | refine awp_region_lit rfl ?_ | ((first | (show AWL _ _ _ (⟨_, .move _, _, _, _, _⟩ :: _) _ _ _; refine awl_pw ?wtq (pv_move rfl rfl) rfl rfl ?_) | (show AWL _ _ _ (⟨_, .assign _, _, _, _, _⟩ :: _) _ _ _; refine awl_pw ?wtq (pv_assign rfl rfl) rfl rfl ?_) | (show AWL _ _ _ (⟨_, .fieldAddr _ _ _, _, _, _, _⟩ :: _) _ _ _; refine awl_pw ?wtq (pv_fa T0 rfl rfl rfl (by simp; rfl)) rfl rfl ?_) | (show AWL _ _ _ (⟨_, .binOp .add _ _ _ _, _, _, _, _⟩ :: _) _ _ _; refine awl_pw ?wtq (pv_add rfl rfl rfl (by first | assumption | exact wr64 (by omega))) rfl rfl ?_)); case wtq => exact wtA) | (show AWL _ _ _ (⟨_, .store _ _ _, _, _, _, _⟩ :: _) _ _ _; refine awl_hw wtA (st_store T0 rfl rfl rfl rfl rfl (by first | assumption | (simp only [cellsA]; rfl)) rfl rfl rfl rcA rcA trivial ?_)) | refine awl_nil ?_)
    rw [show (bitH (any1 m.ex) m.hou b k).map houRow ++ [[intA 0, intA m.ex, AV.v (Value.bool (m.hou.getD k default).sells), AV.v (Value.int .i64 (m.hou.getD k default).ask)]] = (bitH (any1 m.ex) m.hou b (k + 1)).map houRow from by rw [hst2, List.map_append]; rfl]
    refine rnd_n _ _ _ ?_ ⟨k + 1, N + 1, a42, c42, a37, c37, _, hlt, rfl, ?_, ?_, ?_, rfl, rfl⟩ ssA rcA
    · omega
    · rw [hst, List.length_append, ← hN]; rfl
    · rw [hst, hrows, List.map_append]; rfl
    · simp; omega
theorem keeping_q (cp cc : Bool) (m : MktD) (b : Nat) (hv : VMkt m) (hb : b < 100000) : PCall Try.prog 54 [mktA cp cc m, intA b] (fun r => r = .tup [mktA true cc (keepM m (bitsL b m.hou.length)), .t (intsT true (bitsL b m.hou.length)), boolA (sellK m b m.hou.length)]) := by
  have hlen := hv.len
  refine acall_of_awp T0 Try.func54 rfl rfl rfl ?_
  repeat (first | refine awp_seq ?_ | refine awp_region_lit rfl ?_)
  refine awl_hw wtA (st_box rfl rfl raA (by first | assumption | (simp only [cellsA]; rfl)) rfl rfl ?_)
  intro g2
  skip
  refine awl_hw wtA (st_alloc T0 rfl rfl rfl rfl scA ?_)
  intro g4
  repeat (first | refine awp_seq ?_ | refine awp_region_lit rfl ?_ | ((first | (show AWL _ _ _ (⟨_, .assign _, _, _, _, _⟩ :: _) _ _ _; refine awl_pw ?wtq (pv_assign rfl rfl) rfl rfl ?_) | (show AWL _ _ _ (⟨_, .load _ _, _, _, _, _⟩ :: _) _ _ _; refine awl_lw ?wtq (lv_cla T0 rfl rfl rfl rcA rfl) rfl rfl rfl ?_)); case wtq => exact wtA) | refine awl_nil ?_)
  refine awl_hw wtA (st_alloc T0 rfl rfl rfl rfl scA ?_)
  intro g7
  repeat (first | refine awp_seq ?_ | refine awp_block ?_ | refine awp_region_lit rfl ?_ | ((first | (show AWL _ _ _ (⟨_, .assign _, _, _, _, _⟩ :: _) _ _ _; refine awl_pw ?wtq (pv_assign rfl rfl) rfl rfl ?_) | (show AWL _ _ _ (⟨_, .fieldAddr _ _ _, _, _, _, _⟩ :: _) _ _ _; refine awl_pw ?wtq (pv_fa T0 rfl rfl rfl (by simp; rfl)) rfl rfl ?_)); case wtq => exact wtA) | (show AWL _ _ _ (⟨_, .store _ _ _, _, _, _, _⟩ :: _) _ _ _; refine awl_hw wtA (st_store T0 rfl rfl rfl rfl rfl (by first | assumption | (simp only [cellsA]; rfl)) rfl rfl rfl rcA rcA trivial ?_)) | refine awl_nil ?_)
  refine awp_ghost (ghost_nilrow 88 4) ?_
  refine awp_ghost (ghost_nilrow 3 1) ?_
  refine awp_loop (fun q s h => ∃ (k N : Nat) (a : Option Addr) (c : Nat) (a' : Option Addr) (c' : Nat) (rows : List (List AV)), k ≤ m.hou.length ∧ q = m.hou.length - k ∧ N = (bitsL b k).length ∧ rows = (bitsL b k).map intRow ∧ rows.length = N ∧
    s = [(1, intA b), (2, .v (ptrV g2)), (4, .v (ptrV g4)), (7, .v (ptrV g7)), (8, .v (.slice a' N c')), (9, boolA (sellK m b k)), (10, intA k)] ∧ h = [.cl g2 25 [intA m.ex, .t (housT cp m.hou), .t (consT cc m.con)], .cl g4 25 [intA 0, .v (.slice none 0 0), .v (.slice none 0 0)], .cl g7 25 [intA m.ex, .v (.slice a k c), .t (consT cc m.con)], .rw (.slice a k c) 88 4 ((bitH noSell m.hou b k).map houRow), .rw (.slice a' N c') 3 1 rows]) ?_ ⟨0, 0, _, _, _, _, [], Nat.zero_le _, rfl, rfl, rfl, rfl, rfl, rfl⟩ ssA rcA
  rintro q s h ⟨k, N, a, c, a', c', rows, hk, rfl, hN, hrows, hrl, rfl, rfl⟩
  have hbk := bits_len b k
  have hhl : ((bitH noSell m.hou b k).map houRow).length = k := by rw [List.length_map, bitH_len]
  by_cases hlt : k < m.hou.length
  case neg =>
    obtain rfl : k = m.hou.length := by omega
    have htree := rows_tree (d := default) (bitH noSell m.hou b m.hou.length) houRow houL (fun _ => rfl)
    rw [bitH_len] at htree
    refine awp_ghost (ghost_freeze_cell (g := g7) (j := 1) (v := .slice a m.hou.length c) (E := 88) (sz := 4) (n := m.hou.length) (rows := (bitH noSell m.hou b m.hou.length).map houRow) (fun q => houL ((bitH noSell m.hou b m.hou.length).getD q default)) rcA rcA rfl rfl hhl htree) ?_
    refine awp_ghost (ghost_freeze (E := 3) (sz := 1) (n := N) (rows := rows) (d := 8) (fun q => [.sc (.int .i64 ((bitsL b m.hou.length).getD q 0))]) rcA rfl hrl (by rw [hrows, hN]; exact intRows_tree _)) ?_
    have hT : Tr.sl true 4 m.hou.length (fun q => houL ((bitH noSell m.hou b m.hou.length).getD q default)) = housT true (keepL m.hou (bitsL b m.hou.length)) := by
      unfold housT
      rw [keep_len, bitH_keep]
    rw [hT]
    repeat (first | refine awp_seq ?_ | refine awp_region_lit rfl ?_ | refine awp_exit ?_ | refine awp_ret ?_ | refine then_n ?_ | refine awp_cond_f rfl (by first | rfl | assumption | exact dF (by omega)) ?_ | ((first | (show AWL _ _ _ (⟨_, .move _, _, _, _, _⟩ :: _) _ _ _; refine awl_pw ?wtq (pv_move rfl rfl) rfl rfl ?_) | (show AWL _ _ _ (⟨_, .assign _, _, _, _, _⟩ :: _) _ _ _; refine awl_pw ?wtq (pv_assign rfl rfl) rfl rfl ?_) | (show AWL _ _ _ (⟨_, .load _ _, _, _, _, _⟩ :: _) _ _ _; refine awl_lw ?wtq (lv_cl1 T0 rfl rfl rfl rcA raA) rfl rfl rfl ?_) | (show AWL _ _ _ (⟨_, .load _ _, _, _, _, _⟩ :: _) _ _ _; refine awl_lw ?wtq (lv_cla T0 rfl rfl rfl rcA rfl) rfl rfl rfl ?_) | (show AWL _ _ _ (⟨_, .fieldAddr _ _ _, _, _, _, _⟩ :: _) _ _ _; refine awl_pw ?wtq (pv_fa T0 rfl rfl rfl (by simp; rfl)) rfl rfl ?_) | (show AWL _ _ _ (⟨_, .binOp .lss _ _ _ _, _, _, _, _⟩ :: _) _ _ _; refine awl_pw ?wtq (pv_lss rfl rfl rfl) rfl rfl ?_) | (show AWL _ _ _ (⟨_, .call ⟨.builtin .len, _, _⟩, _, _, _, _⟩ :: _) _ _ _; refine awl_pw ?wtq (pv_len_t T0 rfl rfl rfl) rfl rfl ?_)); case wtq => exact wtA) | (show AWL _ _ _ (⟨_, .store _ _ _, _, _, _, _⟩ :: _) _ _ _; refine awl_hw wtA (st_store T0 rfl rfl rfl rfl rfl (by first | assumption | (simp only [cellsA]; rfl)) rfl rfl rfl rcA rcA trivial ?_)) | refine awl_nil ?_)
    subst hN
    refine body_p (res_cell rfl rfl rcA rfl rfl rfl (.cons rfl (.cons rfl .nil))) ?_
    rfl
  have hs1 := bit_fdiv b (i := (k : Int)) (j := k) rfl (by omega)
  have hr1 := bit_rem (b / 2 ^ k)
  have hd1 := bit_dec b k
  repeat (first | refine awp_seq ?_ | refine awp_block ?_ | refine awp_region_lit rfl ?_ | refine awp_skip ?_ | refine then_n ?_ | refine awp_cond_t rfl (by first | rfl | assumption | exact dT (by omega)) ?_ | ((first | (show AWL _ _ _ (⟨_, .move _, _, _, _, _⟩ :: _) _ _ _; refine awl_pw ?wtq (pv_move rfl rfl) rfl rfl ?_) | (show AWL _ _ _ (⟨_, .load _ _, _, _, _, _⟩ :: _) _ _ _; refine awl_lw ?wtq (lv_cl1 T0 rfl rfl rfl rcA raA) rfl rfl rfl ?_) | (show AWL _ _ _ (⟨_, .load _ _, _, _, _, _⟩ :: _) _ _ _; refine awl_lw ?wtq (lv_elt_ag T0 rfl rfl rfl rfl rcA) rfl rfl rfl ?_) | (show AWL _ _ _ (⟨_, .fieldAddr _ _ _, _, _, _, _⟩ :: _) _ _ _; refine awl_pw ?wtq (pv_fa T0 rfl rfl rfl (by simp; rfl)) rfl rfl ?_) | (show AWL _ _ _ (⟨_, .indexAddr _ _ _, _, _, _, _⟩ :: _) _ _ _; refine awl_pw ?wtq (pv_ix_t T0 rfl rfl rfl rfl (by omega) ixA) rfl rfl ?_) | (show AWL _ _ _ (⟨_, .binOp .lss _ _ _ _, _, _, _, _⟩ :: _) _ _ _; refine awl_pw ?wtq (pv_lss rfl rfl rfl) rfl rfl ?_) | (show AWL _ _ _ (⟨_, .call ⟨.builtin .len, _, _⟩, _, _, _, _⟩ :: _) _ _ _; refine awl_pw ?wtq (pv_len_t T0 rfl rfl rfl) rfl rfl ?_)); case wtq => exact wtA) | refine awl_nil ?_)
  refine awl_hw wtA (st_alloc T0 rfl rfl rfl rfl scA ?_)
  intro g11
  repeat (first | refine awp_seq ?_ | refine awp_region_lit rfl ?_ | ((first | (show AWL _ _ _ (⟨_, .move _, _, _, _, _⟩ :: _) _ _ _; refine awl_pw ?wtq (pv_move rfl rfl) rfl rfl ?_)); case wtq => exact wtA) | (show AWL _ _ _ (⟨_, .store _ _ _, _, _, _, _⟩ :: _) _ _ _; refine awl_hw wtA (st_store T0 rfl rfl rfl rfl rfl (by first | assumption | (simp only [cellsA]; rfl)) rfl rfl rfl rcA rcA trivial ?_)) | refine awl_nil ?_)
  refine awl_pw (wt_none rfl) (pv_convert rfl rfl Try.underlying3 Try.underlying92 (wu64 (by omega))) rfl rfl ?_
  refine awl_pw (wt_none rfl) (pv_shr rfl rfl rfl (by omega) hs1) rfl rfl ?_
  repeat (first | refine then_n ?_ | ((first | (show AWL _ _ _ (⟨_, .binOp .rem _ _ _ _, _, _, _, _⟩ :: _) _ _ _; refine awl_pw ?wtq (pv_rem rfl rfl rfl (by omega) (by first | assumption | rfl)) rfl rfl ?_) | (show AWL _ _ _ (⟨_, .binOp .eql _ _ _ _, _, _, _, _⟩ :: _) _ _ _; refine awl_pw ?wtq (pv_eql rfl rfl rfl) rfl rfl ?_)); case wtq => exact wtA) | refine awl_nil ?_)
  rw [hd1]
  cases e1 : b.testBit k
  · have hst : bitsL b (k + 1) = bitsL b k := by simp only [bitsL, e1]; simp
    have hst2 : bitH noSell m.hou b (k + 1) = bitH noSell m.hou b k ++ [m.hou.getD k default] := by rw [bitH_step, e1]; rfl
    have hst3 : sellK m b (k + 1) = sellK m b k := by simp only [sellK, e1]; rfl
    repeat (first | refine awp_region_lit rfl ?_ | refine awp_skip ?_ | refine awp_cond_f rfl (by first | rfl | assumption | exact dF (by omega)) ?_ | ((first | (show AWL _ _ _ (⟨_, .load _ _, _, _, _, _⟩ :: _) _ _ _; refine awl_lw ?wtq (lv_cl1 T0 rfl rfl rfl rcA raA) rfl rfl rfl ?_) | (show AWL _ _ _ (⟨_, .load _ _, _, _, _, _⟩ :: _) _ _ _; refine awl_lw ?wtq (lv_cla T0 rfl rfl rfl rcA rfl) rfl rfl rfl ?_) | (show AWL _ _ _ (⟨_, .fieldAddr _ _ _, _, _, _, _⟩ :: _) _ _ _; refine awl_pw ?wtq (pv_fa T0 rfl rfl rfl (by simp; rfl)) rfl rfl ?_)); case wtq => exact wtA))
    refine awl_hw wtA (st_bsl T0 rfl rfl rfl rfl rfl rcA rfl rfl rfl rfl (by simp only [List.map_cons, List.map_nil, cellsA]; rfl) ?_)
    intro g45
    skip
    refine awl_hw wtA (st_app T0 rfl rfl rfl rfl rfl rfl rfl rfl rfl rcA rcA rfl rfl hhl (by omega) (fun _ _ => trivial) ?_)
    intro a46 c46 p46
    repeat (first | refine awp_region_lit rfl ?_ | ((first | (show AWL _ _ _ (⟨_, .move _, _, _, _, _⟩ :: _) _ _ _; refine awl_pw ?wtq (pv_move rfl rfl) rfl rfl ?_) | (show AWL _ _ _ (⟨_, .assign _, _, _, _, _⟩ :: _) _ _ _; refine awl_pw ?wtq (pv_assign rfl rfl) rfl rfl ?_) | (show AWL _ _ _ (⟨_, .fieldAddr _ _ _, _, _, _, _⟩ :: _) _ _ _; refine awl_pw ?wtq (pv_fa T0 rfl rfl rfl (by simp; rfl)) rfl rfl ?_) | (show AWL _ _ _ (⟨_, .binOp .add _ _ _ _, _, _, _, _⟩ :: _) _ _ _; refine awl_pw ?wtq (pv_add rfl rfl rfl (by first | assumption | exact wr64 (by omega))) rfl rfl ?_)); case wtq => exact wtA) | (show AWL _ _ _ (⟨_, .store _ _ _, _, _, _, _⟩ :: _) _ _ _; refine awl_hw wtA (st_store T0 rfl rfl rfl rfl rfl (by first | assumption | (simp only [cellsA]; rfl)) rfl rfl rfl rcA rcA trivial ?_)) | refine awl_nil ?_)
    rw [show (bitH noSell m.hou b k).map houRow ++ [[AV.v (Value.int .i64 (m.hou.getD k default).lo), AV.v (Value.int .i64 (m.hou.getD k default).hi), AV.v (Value.bool (m.hou.getD k default).sells), AV.v (Value.int .i64 (m.hou.getD k default).ask)]] = (bitH noSell m.hou b (k + 1)).map houRow from by rw [hst2, List.map_append]; rfl]
    refine rnd_n _ _ _ ?_ ⟨k + 1, N, a46, c46, a', c', rows, hlt, rfl, by rw [hst]; exact hN, by rw [hst]; exact hrows, hrl, by rw [hst3], rfl⟩ ssA rcA
    omega
  · have hst : bitsL b (k + 1) = bitsL b k ++ [(k : Int)] := by simp only [bitsL, e1]; simp
    have hst2 : bitH noSell m.hou b (k + 1) = bitH noSell m.hou b k ++ [noSell (m.hou.getD k default)] := by rw [bitH_step, e1]; rfl
    have hst3 : sellK m b (k + 1) = (sellK m b k && (m.hou.getD k default).sells) := by simp only [sellK, e1]; rfl
    cases e2 : sellK m b k
    · have hst4 : sellK m b (k + 1) = false := by rw [hst3, e2]; rfl
      repeat (first | refine awp_seq ?_ | refine awp_region_lit rfl ?_ | refine awp_cond_t rfl (by first | rfl | assumption | exact dT (by omega)) ?_ | ((first | (show AWL _ _ _ (⟨_, .move _, _, _, _, _⟩ :: _) _ _ _; refine awl_pw ?wtq (pv_move rfl rfl) rfl rfl ?_) | (show AWL _ _ _ (⟨_, .assign _, _, _, _, _⟩ :: _) _ _ _; refine awl_pw ?wtq (pv_assign rfl rfl) rfl rfl ?_) | (show AWL _ _ _ (⟨_, .fieldAddr _ _ _, _, _, _, _⟩ :: _) _ _ _; refine awl_pw ?wtq (pv_fa T0 rfl rfl rfl (by simp; rfl)) rfl rfl ?_) | (show AWL _ _ _ (⟨_, .pick _ _ _, _, _, _, _⟩ :: _) _ _ _; refine awl_pw ?wtq (pv_pick_f rfl rfl tfA rfl) rfl rfl ?_)); case wtq => exact wtA) | (show AWL _ _ _ (⟨_, .store _ _ _, _, _, _, _⟩ :: _) _ _ _; refine awl_hw wtA (st_store T0 rfl rfl rfl rfl rfl (by first | assumption | (simp only [cellsA]; rfl)) rfl rfl rfl rcA rcA trivial ?_)) | refine awl_sk (wf_some rfl rfl rfl rfl tfA) rfl rfl ?_ | refine awl_nil ?_)
      refine awl_hw wtA (st_bsl T0 rfl rfl rfl rfl rfl rcA rfl rfl rfl rfl (by simp only [List.map_cons, List.map_nil, cellsA]; rfl) ?_)
      intro g40
      skip
      refine awl_hw wtA (st_app T0 rfl rfl rfl rfl rfl rfl rfl rfl rfl rcA rcA rfl rfl hrl (by omega) (fun _ _ => trivial) ?_)
      intro a41 c41 p41
      repeat (first | refine awp_region_lit rfl ?_ | ((first | (show AWL _ _ _ (⟨_, .assign _, _, _, _, _⟩ :: _) _ _ _; refine awl_pw ?wtq (pv_assign rfl rfl) rfl rfl ?_) | (show AWL _ _ _ (⟨_, .load _ _, _, _, _, _⟩ :: _) _ _ _; refine awl_lw ?wtq (lv_cl1 T0 rfl rfl rfl rcA raA) rfl rfl rfl ?_) | (show AWL _ _ _ (⟨_, .load _ _, _, _, _, _⟩ :: _) _ _ _; refine awl_lw ?wtq (lv_cla T0 rfl rfl rfl rcA rfl) rfl rfl rfl ?_) | (show AWL _ _ _ (⟨_, .fieldAddr _ _ _, _, _, _, _⟩ :: _) _ _ _; refine awl_pw ?wtq (pv_fa T0 rfl rfl rfl (by simp; rfl)) rfl rfl ?_)); case wtq => exact wtA) | refine awl_nil ?_)
      refine awl_hw wtA (st_bsl T0 rfl rfl rfl rfl rfl rcA rfl rfl rfl rfl (by simp only [List.map_cons, List.map_nil, cellsA]; rfl) ?_)
      intro g45
      skip
      refine awl_hw wtA (st_app T0 rfl rfl rfl rfl rfl rfl rfl rfl rfl rcA rcA rfl rfl hhl (by omega) (fun _ _ => trivial) ?_)
      intro a46 c46 p46
      repeat (first | refine awp_region_lit rfl ?_ | ((first | (show AWL _ _ _ (⟨_, .move _, _, _, _, _⟩ :: _) _ _ _; refine awl_pw ?wtq (pv_move rfl rfl) rfl rfl ?_) | (show AWL _ _ _ (⟨_, .assign _, _, _, _, _⟩ :: _) _ _ _; refine awl_pw ?wtq (pv_assign rfl rfl) rfl rfl ?_) | (show AWL _ _ _ (⟨_, .fieldAddr _ _ _, _, _, _, _⟩ :: _) _ _ _; refine awl_pw ?wtq (pv_fa T0 rfl rfl rfl (by simp; rfl)) rfl rfl ?_) | (show AWL _ _ _ (⟨_, .binOp .add _ _ _ _, _, _, _, _⟩ :: _) _ _ _; refine awl_pw ?wtq (pv_add rfl rfl rfl (by first | assumption | exact wr64 (by omega))) rfl rfl ?_)); case wtq => exact wtA) | (show AWL _ _ _ (⟨_, .store _ _ _, _, _, _, _⟩ :: _) _ _ _; refine awl_hw wtA (st_store T0 rfl rfl rfl rfl rfl (by first | assumption | (simp only [cellsA]; rfl)) rfl rfl rfl rcA rcA trivial ?_)) | refine awl_nil ?_)
      rw [show (bitH noSell m.hou b k).map houRow ++ [[AV.v (Value.int .i64 (m.hou.getD k default).lo), AV.v (Value.int .i64 (m.hou.getD k default).hi), AV.v (Value.bool false), AV.v (Value.int .i64 (m.hou.getD k default).ask)]] = (bitH noSell m.hou b (k + 1)).map houRow from by rw [hst2, List.map_append]; rfl]
      refine rnd_n _ _ _ ?_ ⟨k + 1, N + 1, a46, c46, a41, c41, _, hlt, rfl, ?_, ?_, ?_, by rw [hst4], rfl⟩ ssA rcA
      · omega
      · rw [hst, List.length_append, ← hN]; rfl
      · rw [hst, hrows, List.map_append]; rfl
      · simp; omega
    · have hst4 : sellK m b (k + 1) = (m.hou.getD k default).sells := by rw [hst3, e2]; rfl
      repeat (first | refine awp_seq ?_ | refine awp_region_lit rfl ?_ | refine awp_cond_t rfl (by first | rfl | assumption | exact dT (by omega)) ?_ | ((first | (show AWL _ _ _ (⟨_, .move _, _, _, _, _⟩ :: _) _ _ _; refine awl_pw ?wtq (pv_move rfl rfl) rfl rfl ?_) | (show AWL _ _ _ (⟨_, .assign _, _, _, _, _⟩ :: _) _ _ _; refine awl_pw ?wtq (pv_assign rfl rfl) rfl rfl ?_) | (show AWL _ _ _ (⟨_, .load _ _, _, _, _, _⟩ :: _) _ _ _; refine awl_lw ?wtq (lv_cl1 T0 rfl rfl rfl rcA raA) rfl rfl rfl ?_) | (show AWL _ _ _ (⟨_, .fieldAddr _ _ _, _, _, _, _⟩ :: _) _ _ _; refine awl_pw ?wtq (pv_fa T0 rfl rfl rfl (by simp; rfl)) rfl rfl ?_) | (show AWL _ _ _ (⟨_, .pick _ _ _, _, _, _, _⟩ :: _) _ _ _; refine awl_pw ?wtq (pv_pick_t rfl rfl tfA rfl) rfl rfl ?_)); case wtq => exact wtA) | (show AWL _ _ _ (⟨_, .store _ _ _, _, _, _, _⟩ :: _) _ _ _; refine awl_hw wtA (st_store T0 rfl rfl rfl rfl rfl (by first | assumption | (simp only [cellsA]; rfl)) rfl rfl rfl rcA rcA trivial ?_)) | refine awl_nil ?_)
      refine awl_hw wtA (st_bsl T0 rfl rfl rfl rfl rfl rcA rfl rfl rfl rfl (by simp only [List.map_cons, List.map_nil, cellsA]; rfl) ?_)
      intro g40
      skip
      refine awl_hw wtA (st_app T0 rfl rfl rfl rfl rfl rfl rfl rfl rfl rcA rcA rfl rfl hrl (by omega) (fun _ _ => trivial) ?_)
      intro a41 c41 p41
      repeat (first | refine awp_region_lit rfl ?_ | ((first | (show AWL _ _ _ (⟨_, .assign _, _, _, _, _⟩ :: _) _ _ _; refine awl_pw ?wtq (pv_assign rfl rfl) rfl rfl ?_) | (show AWL _ _ _ (⟨_, .load _ _, _, _, _, _⟩ :: _) _ _ _; refine awl_lw ?wtq (lv_cl1 T0 rfl rfl rfl rcA raA) rfl rfl rfl ?_) | (show AWL _ _ _ (⟨_, .load _ _, _, _, _, _⟩ :: _) _ _ _; refine awl_lw ?wtq (lv_cla T0 rfl rfl rfl rcA rfl) rfl rfl rfl ?_) | (show AWL _ _ _ (⟨_, .fieldAddr _ _ _, _, _, _, _⟩ :: _) _ _ _; refine awl_pw ?wtq (pv_fa T0 rfl rfl rfl (by simp; rfl)) rfl rfl ?_)); case wtq => exact wtA) | refine awl_nil ?_)
      refine awl_hw wtA (st_bsl T0 rfl rfl rfl rfl rfl rcA rfl rfl rfl rfl (by simp only [List.map_cons, List.map_nil, cellsA]; rfl) ?_)
      intro g45
      skip
      refine awl_hw wtA (st_app T0 rfl rfl rfl rfl rfl rfl rfl rfl rfl rcA rcA rfl rfl hhl (by omega) (fun _ _ => trivial) ?_)
      intro a46 c46 p46
      repeat (first | refine awp_region_lit rfl ?_ | ((first | (show AWL _ _ _ (⟨_, .move _, _, _, _, _⟩ :: _) _ _ _; refine awl_pw ?wtq (pv_move rfl rfl) rfl rfl ?_) | (show AWL _ _ _ (⟨_, .assign _, _, _, _, _⟩ :: _) _ _ _; refine awl_pw ?wtq (pv_assign rfl rfl) rfl rfl ?_) | (show AWL _ _ _ (⟨_, .fieldAddr _ _ _, _, _, _, _⟩ :: _) _ _ _; refine awl_pw ?wtq (pv_fa T0 rfl rfl rfl (by simp; rfl)) rfl rfl ?_) | (show AWL _ _ _ (⟨_, .binOp .add _ _ _ _, _, _, _, _⟩ :: _) _ _ _; refine awl_pw ?wtq (pv_add rfl rfl rfl (by first | assumption | exact wr64 (by omega))) rfl rfl ?_)); case wtq => exact wtA) | (show AWL _ _ _ (⟨_, .store _ _ _, _, _, _, _⟩ :: _) _ _ _; refine awl_hw wtA (st_store T0 rfl rfl rfl rfl rfl (by first | assumption | (simp only [cellsA]; rfl)) rfl rfl rfl rcA rcA trivial ?_)) | refine awl_nil ?_)
      rw [show (bitH noSell m.hou b k).map houRow ++ [[AV.v (Value.int .i64 (m.hou.getD k default).lo), AV.v (Value.int .i64 (m.hou.getD k default).hi), AV.v (Value.bool false), AV.v (Value.int .i64 (m.hou.getD k default).ask)]] = (bitH noSell m.hou b (k + 1)).map houRow from by rw [hst2, List.map_append]; rfl]
      refine rnd_n _ _ _ ?_ ⟨k + 1, N + 1, a46, c46, a41, c41, _, hlt, rfl, ?_, ?_, ?_, by rw [hst4], rfl⟩ ssA rcA
      · omega
      · rw [hst, List.length_append, ← hN]; rfl
      · rw [hst, hrows, List.map_append]; rfl
      · simp; omega
end Go.Proofs.Ytallicfckbdeaaa
