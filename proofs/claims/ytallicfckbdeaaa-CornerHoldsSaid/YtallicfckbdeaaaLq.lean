/- All holdings by number: walks of Many (Try.func66), Nth (Try.func72), Bounds (Try.func32), few (Try.func28). (lv_elt_agd serves the loads of ranges) -/
import Derived.Test.YtallicfckbdeaaaLb
import Derived.Test.YtallicfckbdeaaaXg
import Derived.Test.YtallicfckbdeaaaGIe
import Derived.Test.YtallicfckbdeaaaGTy
import Derived.Test.YtallicfckbdeaaaGTs
import Derived.Test.YtallicfckbdeaaaGPa
namespace Go.Proofs.Ytallicfckbdeaaa
open Go Go.RowKit Go.Tl
set_option linter.unusedVariables false
set_option linter.unusedSimpArgs false
set_option maxRecDepth 100000
set_option maxHeartbeats 4000000
theorem lv_elt_agd {P : Program} {o : Oper} {s : Slots} {h : List Ent} (T : TT P) {t n sz m k off : Nat} {x : Operand} {f : Nat → List Tr} {ys : List AV} (ho : o.op = .load t x) (hx : evA s x = some (.elt sz m f k off)) (ht : f2 T.siz t = some (n, true))
    (hl : Nat.ble (off + n) (f k).length = true) (hy : OfTrs (((f k).drop off).take n) ys) : LV P o s h none (.ag ys) := by
  have hl := Nat.le_of_ble_eq_true hl
  have h1 := lv_elt (h := h) T ho hx ht (by omega) (.inl rfl)
  have : ldA true n (((f k).map AV.ofTr).drop off) = .ag ys := by
    rw [← hy.eq]; simp only [ldA, if_true, List.map_take, List.map_drop]
  rwa [this] at h1
def loF (m : MktD) (k : Nat) : Int := (m.hou.getD k default).lo
def wiF (m : MktD) (k : Nat) : Int := (m.hou.getD k default).hi - (m.hou.getD k default).lo + 1
/-- how many lists of holdings there are, without the last house -/
abbrev manyN (m : MktD) : Int := mulK (wiF m) (m.hou.length - 1)
theorem wi_bd {m : MktD} (hv : VMkt m) : ∀ k, k < m.hou.length - 1 → 1 ≤ wiF m k := fun k hk => by
  have := hv.held k (by omega)
  unfold wiF
  omega
theorem wi_bd2 {m : MktD} (hv : VMkt m) {k : Nat} (hk : k < m.hou.length) : 1 ≤ wiF m k ∧ wiF m k ≤ 201 := by
  have := hv.held k hk
  unfold wiF
  omega
def nthL (m : MktD) (n : Int) (k : Nat) : List Int := (List.range k).map (digK (loF m) (wiF m) n)
theorem nth_len (m : MktD) (n : Int) (k : Nat) : (nthL m n k).length = k := by simp [nthL]
theorem nth_step (m : MktD) (n : Int) (k : Nat) : nthL m n (k + 1) = nthL m n k ++ [digK (loF m) (wiF m) n k] := by simp [nthL, List.range_succ]
theorem nth_at {m : MktD} {n : Int} {k i : Nat} (h : i < k) : (nthL m n k).getD i 0 = digK (loF m) (wiF m) n i := by simp [nthL, List.getD_eq_getElem?_getD, h]
/-- the list of holdings with a number -/
def nthT (m : MktD) (n : Int) : List Int := nthL m n (m.hou.length - 1) ++ [m.ex - sumF (digK (loF m) (wiF m) n) (m.hou.length - 1)]
theorem nthT_len {m : MktD} (hv : VMkt m) (n : Int) : (nthT m n).length = m.hou.length := by
  have := hv.pos
  simp only [nthT, List.length_append, nth_len, List.length_singleton]
  omega
theorem nthT_at {m : MktD} (n : Int) {i : Nat} (h : i < m.hou.length - 1) : (nthT m n).getD i 0 = digK (loF m) (wiF m) n i := by
  unfold nthT
  rw [List.getD_eq_getElem?_getD, List.getElem?_append_left (by rw [nth_len]; exact h), ← List.getD_eq_getElem?_getD, nth_at h]
theorem nthT_last {m : MktD} (n : Int) : (nthT m n).getD (m.hou.length - 1) 0 = m.ex - sumF (digK (loF m) (wiF m) n) (m.hou.length - 1) := by
  unfold nthT
  have h : (nthL m n (m.hou.length - 1)).length = m.hou.length - 1 := nth_len _ _ _
  rw [List.getD_eq_getElem?_getD, List.getElem?_append_right (by omega), h, Nat.sub_self]
  rfl
/-- each truth has a number -/
theorem truth_nth {m : MktD} (hv : VMkt m) {t : List Int} (ht : truthB m t = true) : ∃ n : Nat, (n : Int) < manyN m ∧ nthT m n = t := by
  have hpos := hv.pos
  obtain ⟨a, b, c⟩ := truth_iff.1 ht
  have hin : ∀ k, k < m.hou.length - 1 → loF m k ≤ t.getD k 0 ∧ t.getD k 0 < loF m k + wiF m k := fun k hk => by
    have := inB_iff.1 (b k (by omega))
    unfold loF wiF
    omega
  have hb := enc_bd (t := fun k => t.getD k 0) (wi_bd hv) hin (m.hou.length - 1) 0 (by omega)
  have hm0 : mulK (wiF m) 0 = 1 := rfl
  rw [hm0] at hb
  refine ⟨(encK (loF m) (wiF m) (fun k => t.getD k 0) (m.hou.length - 1) 0).toNat, by show _ < mulK (wiF m) (m.hou.length - 1); omega, ?_⟩
  rw [Int.toNat_of_nonneg hb.1]
  have hd : ∀ i, i < m.hou.length - 1 → digK (loF m) (wiF m) (encK (loF m) (wiF m) (fun k => t.getD k 0) (m.hou.length - 1) 0) i = t.getD i 0 := fun i hi => dig_enc (t := fun k => t.getD k 0) (wi_bd hv) hin hi
  refine List.ext_getElem (by rw [nthT_len hv, a]) fun i h1 h2 => ?_
  rw [nthT_len hv] at h1
  have e : (nthT m (encK (loF m) (wiF m) (fun k => t.getD k 0) (m.hou.length - 1) 0)).getD i 0 = t.getD i 0 := by
    by_cases hi : i < m.hou.length - 1
    · rw [nthT_at _ hi, hd i hi]
    · obtain rfl : i = m.hou.length - 1 := by omega
      rw [nthT_last, sumF_congr hd]
      rw [left_sum] at c
      have e2 : sumF (fun i => t.getD i 0) m.hou.length = sumF (fun i => t.getD i 0) (m.hou.length - 1) + t.getD (m.hou.length - 1) 0 := by
        conv => lhs; rw [show m.hou.length = m.hou.length - 1 + 1 by omega]
        rfl
      rw [e2] at c
      omega
  simpa [List.getD_eq_getElem?_getD, h1, h2, nthT_len hv, a] using e
attribute [local irreducible] AWP AWL AOp PV LV AWT AWE
section
variable {g1 g8 k i : Nat} {cp cc : Bool} {m : MktD} {x n lo hi : Int} {u1 u2 u5 u6 : AV} {rest : List Ent}
theorem lq_5 (hk : k < m.hou.length) (hv : VMkt m) (hx : 1 ≤ x ∧ x ≤ 100000) {ops : Array Oper} (h : regF Try.f66 5 = some ops) :
    AWP Try.prog Try.f66.ntmps none (.region 5 ops true) (cutQ (fun s h => s = [(1, .v (ptrV g1)), (3, intA (x * wiF m k)), (4, intA k)] ∧ h = [.cl g1 25 [intA m.ex, .t (housT cp m.hou), .t (consT cc m.con)]]))
      [(1, .v (ptrV g1)), (3, intA x), (4, intA k)] [.cl g1 25 [intA m.ex, .t (housT cp m.hou), .t (consT cc m.con)]] := by
  cases h
  have hlen := hv.len
  have hw := wi_bd2 hv hk
  have hh := hv.held k hk
  have h1 := Int.mul_le_mul hx.2 hw.2 (by omega) (by omega)
  have h2 := Int.mul_nonneg (a := x) (b := wiF m k) (by omega) (by omega)
  unfold wiF at *
  refine awp_tree T0 [(0, 0), (1, 0), (2, 1), (3, 0), (4, 0), (5, 0), (6, 0), (7, 1), (8, 0), (9, 1), (10, 0), (11, 0), (12, 0), (13, 0), (14, 1), (15, 0), (16, 0), (17, 0), (18, 0)] (.op 0 0 (.op 1 0 (.op 2 1 (.op 3 0 (.op 4 0 (.op 5 0 (.op 6 0 (.op 7 1 (.op 8 0 (.op 9 1 (.op 10 0 (.op 11 0 (.op 12 0 (.op 13 0 (.op 14 1 (.op 15 0 (.op 16 0 (.op 17 0 (.op 18 0 .stop))))))))))))))))))) [.cl g1 _ _] rfl (by kernel_rfl) rcA ?_
  refine awt_po rfl (wt_none rfl) (pv_move rfl rfl) rfl rfl ?_
  refine awt_po rfl (wt_none rfl) (pv_fa T0 rfl rfl rfl (by simp; rfl)) rfl rfl ?_
  refine awt_lo rfl (wt_none rfl) (lv_cl1 T0 rfl rfl rfl rcA raA) rfl rfl rfl ?_
  refine awt_po rfl (wt_none rfl) (pv_move rfl rfl) rfl rfl ?_
  refine awt_po rfl (wt_none rfl) (pv_ix_t T0 rfl rfl rfl rfl (by omega) ixA) rfl rfl ?_
  refine awt_po rfl (wt_none rfl) (pv_fa_elt T0 rfl rfl rfl (by simp; rfl)) rfl rfl ?_
  refine awt_po rfl (wt_none rfl) (pv_fa_elt T0 rfl rfl rfl (by simp; rfl)) rfl rfl ?_
  refine awt_lo rfl (wt_none rfl) (lv_elt_sc T0 rfl rfl rfl rfl) rfl rfl rfl ?_
  refine awt_po rfl (wt_none rfl) (pv_fa T0 rfl rfl rfl (by simp; rfl)) rfl rfl ?_
  refine awt_lo rfl (wt_none rfl) (lv_cl1 T0 rfl rfl rfl rcA raA) rfl rfl rfl ?_
  refine awt_po rfl (wt_none rfl) (pv_move rfl rfl) rfl rfl ?_
  refine awt_po rfl (wt_none rfl) (pv_ix_t T0 rfl rfl rfl rfl (by omega) ixA) rfl rfl ?_
  refine awt_po rfl (wt_none rfl) (pv_fa_elt T0 rfl rfl rfl (by simp; rfl)) rfl rfl ?_
  refine awt_po rfl (wt_none rfl) (pv_fa_elt T0 rfl rfl rfl (by simp; rfl)) rfl rfl ?_
  refine awt_lo rfl (wt_none rfl) (lv_elt_sc T0 rfl rfl rfl rfl) rfl rfl rfl ?_
  refine awt_po rfl (wt_none rfl) (pv_sub rfl rfl rfl (by first | assumption | exact wr64 (by omega))) rfl rfl ?_
  refine awt_po rfl (wt_none rfl) (pv_add rfl rfl rfl (by first | assumption | exact wr64 (by omega))) rfl rfl ?_
  refine awt_po rfl (wt_none rfl) (pv_mul rfl rfl rfl (by first | assumption | exact wr64 (by omega))) rfl rfl ?_
  refine awt_po rfl (wt_none rfl) (pv_assign rfl rfl) rfl rfl ?_
  refine awt_end ?_
  exact cut_n ⟨rfl, rfl⟩ ssA rcA
theorem lq_7 (hn : 0 ≤ n ∧ n ≤ 1000000) (hb : 0 ≤ lo ∧ lo ≤ hi ∧ hi ≤ 200) {ops : Array Oper} (h : regF Try.f72 7 = some ops) :
    AWP Try.prog Try.f72.ntmps none (.region 7 ops true) (cutQ (fun s h => s = [(9, intA (lo + n.tmod (hi - lo + 1))), (1, intA n), (2, u2), (5, u5), (6, u6), (7, intA i), (8, .v (ptrV g8))] ∧ h = .cl g8 53 [intA lo, intA hi] :: rest))
      [(1, intA n), (2, u2), (5, u5), (6, u6), (7, intA i), (8, .v (ptrV g8))] (.cl g8 53 [intA lo, intA hi] :: rest) := by
  cases h
  have h3 : 0 ≤ n.tmod (hi - lo + 1) := Int.tmod_nonneg _ hn.1
  have h4 : n.tmod (hi - lo + 1) < hi - lo + 1 := Int.tmod_lt_of_pos _ (by omega)
  refine awp_tree T0 [(0, 0), (1, 1), (2, 0), (3, 0), (4, 1), (5, 0), (6, 1), (7, 0), (8, 0), (9, 0), (10, 0), (11, 0)] (.op 0 0 (.op 1 1 (.op 2 0 (.op 3 0 (.op 4 1 (.op 5 0 (.op 6 1 (.op 7 0 (.op 8 0 (.op 9 0 (.op 10 0 (.op 11 0 .stop)))))))))))) [.cl g8 _ _] rfl (by kernel_rfl) rcA ?_
  refine awt_po rfl (wt_none rfl) (pv_fa T0 rfl rfl rfl (by simp; rfl)) rfl rfl ?_
  refine awt_lo rfl (wt_none rfl) (lv_cl1 T0 rfl rfl rfl rcA raA) rfl rfl rfl ?_
  refine awt_po rfl (wt_none rfl) (pv_move rfl rfl) rfl rfl ?_
  refine awt_po rfl (wt_none rfl) (pv_fa T0 rfl rfl rfl (by simp; rfl)) rfl rfl ?_
  refine awt_lo rfl (wt_none rfl) (lv_cl1 T0 rfl rfl rfl rcA raA) rfl rfl rfl ?_
  refine awt_po rfl (wt_none rfl) (pv_fa T0 rfl rfl rfl (by simp; rfl)) rfl rfl ?_
  refine awt_lo rfl (wt_none rfl) (lv_cl1 T0 rfl rfl rfl rcA raA) rfl rfl rfl ?_
  refine awt_po rfl (wt_none rfl) (pv_sub rfl rfl rfl (by first | assumption | exact wr64 (by omega))) rfl rfl ?_
  refine awt_po rfl (wt_none rfl) (pv_add rfl rfl rfl (by first | assumption | exact wr64 (by omega))) rfl rfl ?_
  refine awt_po rfl (wt_none rfl) (pv_rem rfl rfl rfl (by omega) (by first | assumption | rfl)) rfl rfl ?_
  refine awt_po rfl (wt_none rfl) (pv_add rfl rfl rfl (by first | assumption | exact wr64 (by omega))) rfl rfl ?_
  refine awt_po rfl (wt_none rfl) (pv_assign rfl rfl) rfl rfl ?_
  refine awt_end ?_
  exact cut_n ⟨rfl, rfl⟩ ssA (SubH.refl _)
end
theorem many_any (cp cc : Bool) (m : MktD) (hv : VMkt m) : PCall Try.prog 66 [mktA cp cc m] (fun r => ∃ x, r = intA x ∧ (x ≤ 100000 → x = manyN m) ∧ (1 ≤ x ∧ x ≤ 100000000) ∧ x ≤ manyN m) := by
  have hlen := hv.len
  have hpos := hv.pos
  refine acall_of_awp T0 Try.func66 rfl rfl rfl ?_
  repeat (first | refine awp_seq ?_ | refine awp_region_lit rfl ?_)
  refine awl_hw wtA (st_box rfl rfl raA (by first | assumption | (simp only [cellsA]; rfl)) rfl rfl ?_)
  intro g1
  repeat (first | refine awp_seq ?_ | refine awp_block ?_ | refine awp_region_lit rfl ?_ | ((first | (show AWL _ _ _ (⟨_, .assign _, _, _, _, _⟩ :: _) _ _ _; refine awl_pw ?wtq (pv_assign rfl rfl) rfl rfl ?_)); case wtq => exact wtA) | refine awl_nil ?_)
  refine awp_loop (fun q s h => ∃ (k : Nat), k ≤ m.hou.length - 1 ∧ q = m.hou.length - k ∧ mulK (wiF m) k ≤ 100000000 ∧ s = [(1, .v (ptrV g1)), (3, intA (mulK (wiF m) k)), (4, intA k)] ∧ h = [.cl g1 25 [intA m.ex, .t (housT cp m.hou), .t (consT cc m.con)]]) ?_ ⟨0, Nat.zero_le _, rfl, by show (1 : Int) ≤ 100000000; decide, rfl, rfl⟩ ssA rcA
  rintro q s h ⟨k, hk, rfl, hbd, rfl, rfl⟩
  have hm1 := mul_pos (wi_bd hv) k hk
  have hmm := mul_mono (wi_bd hv) (m.hou.length - 1 - k) k (by omega)
  rw [show k + (m.hou.length - 1 - k) = m.hou.length - 1 by omega] at hmm
  by_cases hlt : k < m.hou.length - 1
  case neg =>
    obtain rfl : k = m.hou.length - 1 := by omega
    have d1 : decide (((m.hou.length - 1 : Nat) : Int) < (m.hou.length : Int) - 1) = false := decide_eq_false (by omega)
    repeat (first | refine awp_seq ?_ | refine awp_region_lit rfl ?_ | refine awp_exit ?_ | refine awp_ret ?_ | refine then_n ?_ | refine awp_cond_f rfl (by first | rfl | assumption | exact dF (by omega)) ?_ | ((first | (show AWL _ _ _ (⟨_, .move _, _, _, _, _⟩ :: _) _ _ _; refine awl_pw ?wtq (pv_move rfl rfl) rfl rfl ?_) | (show AWL _ _ _ (⟨_, .assign _, _, _, _, _⟩ :: _) _ _ _; refine awl_pw ?wtq (pv_assign rfl rfl) rfl rfl ?_) | (show AWL _ _ _ (⟨_, .load _ _, _, _, _, _⟩ :: _) _ _ _; refine awl_lw ?wtq (lv_cl1 T0 rfl rfl rfl rcA raA) rfl rfl rfl ?_) | (show AWL _ _ _ (⟨_, .fieldAddr _ _ _, _, _, _, _⟩ :: _) _ _ _; refine awl_pw ?wtq (pv_fa T0 rfl rfl rfl (by simp; rfl)) rfl rfl ?_) | (show AWL _ _ _ (⟨_, .binOp .sub _ _ _ _, _, _, _, _⟩ :: _) _ _ _; refine awl_pw ?wtq (pv_sub rfl rfl rfl (by first | assumption | exact wr64 (by omega))) rfl rfl ?_) | (show AWL _ _ _ (⟨_, .binOp .lss _ _ _ _, _, _, _, _⟩ :: _) _ _ _; refine awl_pw ?wtq (pv_lss rfl rfl rfl) rfl rfl ?_) | (show AWL _ _ _ (⟨_, .call ⟨.builtin .len, _, _⟩, _, _, _, _⟩ :: _) _ _ _; refine awl_pw ?wtq (pv_len_t T0 rfl rfl rfl) rfl rfl ?_) | (show AWL _ _ _ (⟨_, .pick _ _ _, _, _, _, _⟩ :: _) _ _ _; refine awl_pw ?wtq (pv_pick_f rfl rfl tfA rfl) rfl rfl ?_)); case wtq => exact wtA) | refine awl_sk (wf_some rfl rfl rfl rfl tfA) rfl rfl ?_ | refine awl_nil ?_)
    exact body_p (.cons rfl .nil) ⟨_, rfl, fun _ => rfl, ⟨hm1, hbd⟩, Int.le_refl _⟩
  have d1 : decide ((k : Int) < (m.hou.length : Int) - 1) = true := decide_eq_true (by omega)
  by_cases hle : mulK (wiF m) k ≤ 100000
  case neg =>
    have d2 : decide (mulK (wiF m) k ≤ 100000) = false := decide_eq_false hle
    repeat (first | refine awp_seq ?_ | refine awp_region_lit rfl ?_ | refine awp_exit ?_ | refine awp_ret ?_ | refine then_n ?_ | refine awp_cond_f rfl (by first | rfl | assumption | exact dF (by omega)) ?_ | ((first | (show AWL _ _ _ (⟨_, .move _, _, _, _, _⟩ :: _) _ _ _; refine awl_pw ?wtq (pv_move rfl rfl) rfl rfl ?_) | (show AWL _ _ _ (⟨_, .assign _, _, _, _, _⟩ :: _) _ _ _; refine awl_pw ?wtq (pv_assign rfl rfl) rfl rfl ?_) | (show AWL _ _ _ (⟨_, .load _ _, _, _, _, _⟩ :: _) _ _ _; refine awl_lw ?wtq (lv_cl1 T0 rfl rfl rfl rcA raA) rfl rfl rfl ?_) | (show AWL _ _ _ (⟨_, .fieldAddr _ _ _, _, _, _, _⟩ :: _) _ _ _; refine awl_pw ?wtq (pv_fa T0 rfl rfl rfl (by simp; rfl)) rfl rfl ?_) | (show AWL _ _ _ (⟨_, .binOp .sub _ _ _ _, _, _, _, _⟩ :: _) _ _ _; refine awl_pw ?wtq (pv_sub rfl rfl rfl (by first | assumption | exact wr64 (by omega))) rfl rfl ?_) | (show AWL _ _ _ (⟨_, .binOp .lss _ _ _ _, _, _, _, _⟩ :: _) _ _ _; refine awl_pw ?wtq (pv_lss rfl rfl rfl) rfl rfl ?_) | (show AWL _ _ _ (⟨_, .binOp .leq _ _ _ _, _, _, _, _⟩ :: _) _ _ _; refine awl_pw ?wtq (pv_leq rfl rfl rfl) rfl rfl ?_) | (show AWL _ _ _ (⟨_, .call ⟨.builtin .len, _, _⟩, _, _, _, _⟩ :: _) _ _ _; refine awl_pw ?wtq (pv_len_t T0 rfl rfl rfl) rfl rfl ?_) | (show AWL _ _ _ (⟨_, .pick _ _ _, _, _, _, _⟩ :: _) _ _ _; refine awl_pw ?wtq (pv_pick_t rfl rfl tfA rfl) rfl rfl ?_)); case wtq => exact wtA) | refine awl_nil ?_)
    exact body_p (.cons rfl .nil) ⟨_, rfl, fun h => absurd h hle, ⟨hm1, hbd⟩, hmm⟩
  have d2 : decide (mulK (wiF m) k ≤ 100000) = true := decide_eq_true hle
  have hw := wi_bd2 hv (show k < m.hou.length by omega)
  have h1 := Int.mul_le_mul hle hw.2 (by omega) (by omega)
  have hst : mulK (wiF m) (k + 1) = mulK (wiF m) k * wiF m k := rfl
  repeat (first | refine awp_seq ?_ | refine awp_block ?_ | refine awp_region_lit rfl ?_ | refine awp_skip ?_ | refine then_n ?_ | refine awp_cond_t rfl (by first | rfl | assumption | exact dT (by omega)) ?_ | ((first | (show AWL _ _ _ (⟨_, .move _, _, _, _, _⟩ :: _) _ _ _; refine awl_pw ?wtq (pv_move rfl rfl) rfl rfl ?_) | (show AWL _ _ _ (⟨_, .load _ _, _, _, _, _⟩ :: _) _ _ _; refine awl_lw ?wtq (lv_cl1 T0 rfl rfl rfl rcA raA) rfl rfl rfl ?_) | (show AWL _ _ _ (⟨_, .fieldAddr _ _ _, _, _, _, _⟩ :: _) _ _ _; refine awl_pw ?wtq (pv_fa T0 rfl rfl rfl (by simp; rfl)) rfl rfl ?_) | (show AWL _ _ _ (⟨_, .binOp .sub _ _ _ _, _, _, _, _⟩ :: _) _ _ _; refine awl_pw ?wtq (pv_sub rfl rfl rfl (by first | assumption | exact wr64 (by omega))) rfl rfl ?_) | (show AWL _ _ _ (⟨_, .binOp .lss _ _ _ _, _, _, _, _⟩ :: _) _ _ _; refine awl_pw ?wtq (pv_lss rfl rfl rfl) rfl rfl ?_) | (show AWL _ _ _ (⟨_, .binOp .leq _ _ _ _, _, _, _, _⟩ :: _) _ _ _; refine awl_pw ?wtq (pv_leq rfl rfl rfl) rfl rfl ?_) | (show AWL _ _ _ (⟨_, .call ⟨.builtin .len, _, _⟩, _, _, _, _⟩ :: _) _ _ _; refine awl_pw ?wtq (pv_len_t T0 rfl rfl rfl) rfl rfl ?_) | (show AWL _ _ _ (⟨_, .pick _ _ _, _, _, _, _⟩ :: _) _ _ _; refine awl_pw ?wtq (pv_pick_t rfl rfl tfA rfl) rfl rfl ?_)); case wtq => exact wtA) | refine awl_nil ?_)
  refine awp_cutB _ (awp_weak ssA rcA (lq_5 (g1 := g1) (k := k) (cp := cp) (cc := cc) (m := m) (x := mulK (wiF m) k) (by omega) hv (by omega) rfl)) ?_
  rintro s h ⟨rfl, rfl⟩
  rw [← hst]
  repeat (first | refine awp_region_lit rfl ?_ | ((first | (show AWL _ _ _ (⟨_, .move _, _, _, _, _⟩ :: _) _ _ _; refine awl_pw ?wtq (pv_move rfl rfl) rfl rfl ?_) | (show AWL _ _ _ (⟨_, .assign _, _, _, _, _⟩ :: _) _ _ _; refine awl_pw ?wtq (pv_assign rfl rfl) rfl rfl ?_) | (show AWL _ _ _ (⟨_, .binOp .add _ _ _ _, _, _, _, _⟩ :: _) _ _ _; refine awl_pw ?wtq (pv_add rfl rfl rfl (by first | assumption | exact wr64 (by omega))) rfl rfl ?_)); case wtq => exact wtA) | refine awl_nil ?_)
  refine rnd_n _ _ _ ?_ ⟨k + 1, hlt, rfl, by rw [hst]; omega, rfl, rfl⟩ ssA rcA
  omega
theorem many_p (cp cc : Bool) (m : MktD) (hv : VMkt m) (h : manyN m ≤ 100000) : PCall Try.prog 66 [mktA cp cc m] (fun r => r = intA (manyN m)) :=
  (many_any cp cc m hv).mono fun r ⟨x, e, h1, _, h2⟩ => by rw [e, h1 (by omega)]
theorem nth_p (cp cc : Bool) (m : MktD) (hv : VMkt m) (n : Int) (hn : 0 ≤ n ∧ n ≤ 1000000) : PCall Try.prog 72 [mktA cp cc m, intA n] (fun r => r = .t (intsT true (nthT m n))) := by
  have hlen := hv.len
  have hpos := hv.pos
  have hex := hv.ex
  refine acall_of_awp T0 Try.func72 rfl rfl rfl ?_
  repeat (first | refine awp_seq ?_ | refine awp_region_lit rfl ?_)
  refine awl_hw wtA (st_box rfl rfl raA (by first | assumption | (simp only [cellsA]; rfl)) rfl rfl ?_)
  intro g2
  repeat (first | refine awp_seq ?_ | refine awp_block ?_ | refine awp_region_lit rfl ?_ | ((first | (show AWL _ _ _ (⟨_, .assign _, _, _, _, _⟩ :: _) _ _ _; refine awl_pw ?wtq (pv_assign rfl rfl) rfl rfl ?_) | (show AWL _ _ _ (⟨_, .load _ _, _, _, _, _⟩ :: _) _ _ _; refine awl_lw ?wtq (lv_cl1 T0 rfl rfl rfl rcA raA) rfl rfl rfl ?_) | (show AWL _ _ _ (⟨_, .fieldAddr _ _ _, _, _, _, _⟩ :: _) _ _ _; refine awl_pw ?wtq (pv_fa T0 rfl rfl rfl (by simp; rfl)) rfl rfl ?_)); case wtq => exact wtA) | refine awl_nil ?_)
  refine awp_ghost (ghost_nilrow 3 1) ?_
  refine awp_loop (fun q s h => ∃ (k : Nat) (left : Int) (a : Option Addr) (c : Nat), k ≤ m.hou.length - 1 ∧ q = m.hou.length - k ∧ left = m.ex - sumF (digK (loF m) (wiF m) n) k ∧ -400 * (k : Int) ≤ left ∧ left ≤ 200 ∧ s = [(1, intA (quoK (wiF m) n k)), (2, .v (ptrV g2)), (5, .v (.slice a k c)), (6, intA left), (7, intA k)] ∧ h = [.cl g2 25 [intA m.ex, .t (housT cp m.hou), .t (consT cc m.con)], .rw (.slice a k c) 3 1 ((nthL m n k).map intRow)]) ?_ ⟨0, m.ex, _, _, Nat.zero_le _, rfl, by simp [sumF], by omega, by omega, rfl, rfl⟩ ssA rcA
  rintro q s h ⟨k, left, a, c, hk, rfl, hleft, hl1, hl2, rfl, rfl⟩
  have hrl : ((nthL m n k).map intRow).length = k := by rw [List.length_map, nth_len]
  by_cases hlt : k < m.hou.length - 1
  case neg =>
    obtain rfl : k = m.hou.length - 1 := by omega
    have d1 : decide (((m.hou.length - 1 : Nat) : Int) < (m.hou.length : Int) - 1) = false := decide_eq_false (by omega)
    have hNl : (nthT m n).length = m.hou.length - 1 + 1 := by rw [nthT_len hv]; omega
    have hrt := intRows_tree (nthT m n)
    rw [hNl] at hrt
    have hrl2 : ((nthT m n).map intRow).length = m.hou.length - 1 + 1 := by rw [List.length_map, hNl]
    repeat (first | refine awp_seq ?_ | refine awp_region_lit rfl ?_ | refine awp_exit ?_ | refine then_n ?_ | refine awp_cond_f rfl (by first | rfl | assumption | exact dF (by omega)) ?_ | ((first | (show AWL _ _ _ (⟨_, .move _, _, _, _, _⟩ :: _) _ _ _; refine awl_pw ?wtq (pv_move rfl rfl) rfl rfl ?_) | (show AWL _ _ _ (⟨_, .load _ _, _, _, _, _⟩ :: _) _ _ _; refine awl_lw ?wtq (lv_cl1 T0 rfl rfl rfl rcA raA) rfl rfl rfl ?_) | (show AWL _ _ _ (⟨_, .fieldAddr _ _ _, _, _, _, _⟩ :: _) _ _ _; refine awl_pw ?wtq (pv_fa T0 rfl rfl rfl (by simp; rfl)) rfl rfl ?_) | (show AWL _ _ _ (⟨_, .binOp .sub _ _ _ _, _, _, _, _⟩ :: _) _ _ _; refine awl_pw ?wtq (pv_sub rfl rfl rfl (by first | assumption | exact wr64 (by omega))) rfl rfl ?_) | (show AWL _ _ _ (⟨_, .binOp .lss _ _ _ _, _, _, _, _⟩ :: _) _ _ _; refine awl_pw ?wtq (pv_lss rfl rfl rfl) rfl rfl ?_) | (show AWL _ _ _ (⟨_, .call ⟨.builtin .len, _, _⟩, _, _, _, _⟩ :: _) _ _ _; refine awl_pw ?wtq (pv_len_t T0 rfl rfl rfl) rfl rfl ?_)); case wtq => exact wtA) | refine awl_nil ?_)
    refine awl_hw wtA (st_bsl T0 rfl rfl rfl rfl rfl rcA rfl rfl rfl rfl (by simp only [List.map_cons, List.map_nil, cellsA]; rfl) ?_)
    intro g54
    skip
    refine awl_hw wtA (st_app T0 rfl rfl rfl rfl rfl rfl rfl rfl rfl rcA rcA rfl rfl hrl (by omega) (fun _ _ => trivial) ?_)
    intro a55 c55 p55
    rw [show (nthL m n (m.hou.length - 1)).map intRow ++ [[intA left]] = (nthT m n).map intRow from by unfold nthT; rw [List.map_append, hleft]; rfl]
    repeat (first | refine awp_ret ?_ | ((first | (show AWL _ _ _ (⟨_, .assign _, _, _, _, _⟩ :: _) _ _ _; refine awl_pw ?wtq (pv_assign rfl rfl) rfl rfl ?_)); case wtq => exact wtA) | refine awl_nil ?_)
    refine bodyQ_ghost (ghost_freeze (E := 3) (sz := 1) (n := m.hou.length - 1 + 1) (rows := (nthT m n).map intRow) (d := 4) (fun q => [.sc (.int .i64 ((nthT m n).getD q 0))]) rcA rfl hrl2 hrt) ?_
    refine body_p (.cons rfl .nil) ?_
    unfold intsT
    rw [hNl]
    rfl
  have d1 : decide ((k : Int) < (m.hou.length : Int) - 1) = true := decide_eq_true (by omega)
  have hh := hv.held k (by omega)
  have hq := quo_bd (wi_bd hv) hn.1 k hk
  have hd := dig_bd (lo := loF m) (wi_bd hv) hn.1 hlt
  have hw := wi_bd2 hv (show k < m.hou.length by omega)
  have hdv : digK (loF m) (wiF m) n k = (m.hou.getD k default).lo + (quoK (wiF m) n k).tmod ((m.hou.getD k default).hi - (m.hou.getD k default).lo + 1) := rfl
  have hlo : loF m k = (m.hou.getD k default).lo := rfl
  have hq1 : quoK (wiF m) n (k + 1) = (quoK (wiF m) n k).tdiv ((m.hou.getD k default).hi - (m.hou.getD k default).lo + 1) := rfl
  have hq2 := quo_bd (wi_bd hv) hn.1 (k + 1) hlt
  have hwr : IntKind.i64.wrap ((quoK (wiF m) n k).tdiv ((m.hou.getD k default).hi - (m.hou.getD k default).lo + 1)) = quoK (wiF m) n (k + 1) := by rw [← hq1]; exact wr64 (by omega)
  repeat (first | refine awp_seq ?_ | refine awp_block ?_ | refine awp_region_lit rfl ?_ | refine awp_skip ?_ | refine then_n ?_ | refine awp_cond_t rfl (by first | rfl | assumption | exact dT (by omega)) ?_ | ((first | (show AWL _ _ _ (⟨_, .move _, _, _, _, _⟩ :: _) _ _ _; refine awl_pw ?wtq (pv_move rfl rfl) rfl rfl ?_) | (show AWL _ _ _ (⟨_, .load _ _, _, _, _, _⟩ :: _) _ _ _; refine awl_lw ?wtq (lv_cl1 T0 rfl rfl rfl rcA raA) rfl rfl rfl ?_) | (show AWL _ _ _ (⟨_, .load _ _, _, _, _, _⟩ :: _) _ _ _; refine awl_lw ?wtq (lv_elt_agd T0 rfl rfl rfl rfl (by first | ((repeat' (first | exact OfTrs.nil | apply OfTrs.sc | apply OfTrs.sl)); all_goals fail) | fail)) rfl rfl rfl ?_) | (show AWL _ _ _ (⟨_, .fieldAddr _ _ _, _, _, _, _⟩ :: _) _ _ _; refine awl_pw ?wtq (pv_fa T0 rfl rfl rfl (by simp; rfl)) rfl rfl ?_) | (show AWL _ _ _ (⟨_, .fieldAddr _ _ _, _, _, _, _⟩ :: _) _ _ _; refine awl_pw ?wtq (pv_fa_elt T0 rfl rfl rfl (by simp; rfl)) rfl rfl ?_) | (show AWL _ _ _ (⟨_, .indexAddr _ _ _, _, _, _, _⟩ :: _) _ _ _; refine awl_pw ?wtq (pv_ix_t T0 rfl rfl rfl rfl (by omega) ixA) rfl rfl ?_) | (show AWL _ _ _ (⟨_, .binOp .sub _ _ _ _, _, _, _, _⟩ :: _) _ _ _; refine awl_pw ?wtq (pv_sub rfl rfl rfl (by first | assumption | exact wr64 (by omega))) rfl rfl ?_) | (show AWL _ _ _ (⟨_, .binOp .lss _ _ _ _, _, _, _, _⟩ :: _) _ _ _; refine awl_pw ?wtq (pv_lss rfl rfl rfl) rfl rfl ?_) | (show AWL _ _ _ (⟨_, .call ⟨.builtin .len, _, _⟩, _, _, _, _⟩ :: _) _ _ _; refine awl_pw ?wtq (pv_len_t T0 rfl rfl rfl) rfl rfl ?_)); case wtq => exact wtA) | refine awl_nil ?_)
  refine awl_hw wtA (st_alloc T0 rfl rfl rfl rfl scA ?_)
  intro g8
  repeat (first | refine awp_seq ?_ | (show AWL _ _ _ (⟨_, .store _ _ _, _, _, _, _⟩ :: _) _ _ _; refine awl_hw wtA (st_store T0 rfl rfl rfl rfl rfl (by first | assumption | (simp only [cellsA]; rfl)) rfl rfl rfl rcA rcA trivial ?_)) | refine awl_nil ?_)
  refine awp_cut _ (awp_weak ssA rcA (lq_7 (g8 := g8) (i := k) (n := quoK (wiF m) n k) (lo := (m.hou.getD k default).lo) (hi := (m.hou.getD k default).hi) (u2 := .v (ptrV g2)) (u5 := .v (.slice a k c)) (u6 := intA left) (rest := [.cl g2 25 [intA m.ex, .t (housT cp m.hou), .t (consT cc m.con)], .rw (.slice a k c) 3 1 ((nthL m n k).map intRow)]) (by omega) hh rfl)) ?_
  rintro s h ⟨rfl, rfl⟩
  rw [← hdv]
  generalize hD : digK (loF m) (wiF m) n k = D at *
  repeat (first | refine awp_seq ?_ | refine awp_region_lit rfl ?_ | ((first | (show AWL _ _ _ (⟨_, .move _, _, _, _, _⟩ :: _) _ _ _; refine awl_pw ?wtq (pv_move rfl rfl) rfl rfl ?_) | (show AWL _ _ _ (⟨_, .assign _, _, _, _, _⟩ :: _) _ _ _; refine awl_pw ?wtq (pv_assign rfl rfl) rfl rfl ?_) | (show AWL _ _ _ (⟨_, .load _ _, _, _, _, _⟩ :: _) _ _ _; refine awl_lw ?wtq (lv_cl1 T0 rfl rfl rfl rcA raA) rfl rfl rfl ?_) | (show AWL _ _ _ (⟨_, .fieldAddr _ _ _, _, _, _, _⟩ :: _) _ _ _; refine awl_pw ?wtq (pv_fa T0 rfl rfl rfl (by simp; rfl)) rfl rfl ?_) | (show AWL _ _ _ (⟨_, .binOp .add _ _ _ _, _, _, _, _⟩ :: _) _ _ _; refine awl_pw ?wtq (pv_add rfl rfl rfl (by first | assumption | exact wr64 (by omega))) rfl rfl ?_) | (show AWL _ _ _ (⟨_, .binOp .sub _ _ _ _, _, _, _, _⟩ :: _) _ _ _; refine awl_pw ?wtq (pv_sub rfl rfl rfl (by first | assumption | exact wr64 (by omega))) rfl rfl ?_) | (show AWL _ _ _ (⟨_, .binOp .quo _ _ _ _, _, _, _, _⟩ :: _) _ _ _; refine awl_pw ?wtq (pv_quo rfl rfl rfl (by omega) (by first | assumption | exact wr64 (by omega))) rfl rfl ?_)); case wtq => exact wtA) | refine awl_nil ?_)
  refine awl_hw wtA (st_bsl T0 rfl rfl rfl rfl rfl rcA rfl rfl rfl rfl (by simp only [List.map_cons, List.map_nil, cellsA]; rfl) ?_)
  intro g47
  skip
  refine awl_hw wtA (st_app T0 rfl rfl rfl rfl rfl rfl rfl rfl rfl rcA rcA rfl rfl hrl (by omega) (fun _ _ => trivial) ?_)
  intro a48 c48 p48
  rw [show (nthL m n k).map intRow ++ [[intA D]] = (nthL m n (k + 1)).map intRow from by rw [nth_step, List.map_append, hD]; rfl]
  repeat (first | refine awp_region_lit rfl ?_ | ((first | (show AWL _ _ _ (⟨_, .move _, _, _, _, _⟩ :: _) _ _ _; refine awl_pw ?wtq (pv_move rfl rfl) rfl rfl ?_) | (show AWL _ _ _ (⟨_, .assign _, _, _, _, _⟩ :: _) _ _ _; refine awl_pw ?wtq (pv_assign rfl rfl) rfl rfl ?_) | (show AWL _ _ _ (⟨_, .binOp .add _ _ _ _, _, _, _, _⟩ :: _) _ _ _; refine awl_pw ?wtq (pv_add rfl rfl rfl (by first | assumption | exact wr64 (by omega))) rfl rfl ?_) | (show AWL _ _ _ (⟨_, .binOp .sub _ _ _ _, _, _, _, _⟩ :: _) _ _ _; refine awl_pw ?wtq (pv_sub rfl rfl rfl (by first | assumption | exact wr64 (by omega))) rfl rfl ?_)); case wtq => exact wtA) | refine awl_nil ?_)
  refine rnd_n _ _ _ ?_ ⟨k + 1, left - D, a48, c48, hlt, rfl, by simp only [sumF]; rw [hD, hleft]; omega, by omega, by omega, rfl, rfl⟩ ssA rcA
  omega
theorem few_p (m : MktD) (mx : Int) (hl : m.hou.length ≤ 9223372036854775807) (hc : m.con.length ≤ 9223372036854775807) (hmx : 0 ≤ mx ∧ mx ≤ 3000) : PCall Try.prog 28 [mktA false false m, intA mx] (fun r => ∃ b, (b = true → (m.hou.length ≤ 9 ∧ m.con.length ≤ 11) ∧ (faultN m = 0 → manyN m ≤ mx)) ∧ r = boolA b) := by
  have hT : ∀ r, (decide (m.hou.length ≤ 9) && decide (m.con.length ≤ 11) && decide (([] : List Int).length ≤ 9)) = r → ACall Try.prog 17 [mktA false false m, .v (.slice none 0 0)] [] (fun x h' => x = boolA r ∧ h' = []) := fun r hr =>
    acall_nil2 (cp := false) (f := fun k => [.sc (.int .i64 (([] : List Int).getD k 0))]) (thin_q (ct := false) (m := m) (t := []) hl hc (by simp) hr)
  refine acall_of_awp T0 Try.func28 rfl rfl rfl ?_
  cases hth : (decide (m.hou.length ≤ 9) && decide (m.con.length ≤ 11) && decide (([] : List Int).length ≤ 9))
  · repeat (first | refine awp_seq ?_ | refine awp_region_lit rfl ?_)
    refine awl_hw wtA (st_box rfl rfl raA (by first | assumption | (simp only [cellsA]; rfl)) rfl rfl ?_)
    intro g2
    repeat (first | refine awp_seq ?_ | refine awp_region_lit rfl ?_ | ((first | (show AWL _ _ _ (⟨_, .assign _, _, _, _, _⟩ :: _) _ _ _; refine awl_pw ?wtq (pv_assign rfl rfl) rfl rfl ?_) | (show AWL _ _ _ (⟨_, .load _ _, _, _, _, _⟩ :: _) _ _ _; refine awl_lw ?wtq (lv_cla T0 rfl rfl rfl rcA rfl) rfl rfl rfl ?_)); case wtq => exact wtA) | refine awl_nil ?_)
    refine awl_hw wtA (st_acall T0 (hT false hth) rfl rfl rfl rfl (by first | exact callee_lit | exact callee_v | exact callee_fn | assumption) rcA raA rfl (by first | ((repeat' (first | exact SubH.refl _ | apply SubH.cons | exact Pick.here | apply Pick.there)); all_goals fail) | fail) (fun _ _ => trivial) ?_)
    rintro r h' ⟨rfl, rfl⟩
    repeat (first | refine awp_ret ?_ | ((first | (show AWL _ _ _ (⟨_, .move _, _, _, _, _⟩ :: _) _ _ _; refine awl_pw ?wtq (pv_move rfl rfl) rfl rfl ?_) | (show AWL _ _ _ (⟨_, .assign _, _, _, _, _⟩ :: _) _ _ _; refine awl_pw ?wtq (pv_assign rfl rfl) rfl rfl ?_) | (show AWL _ _ _ (⟨_, .load _ _, _, _, _, _⟩ :: _) _ _ _; refine awl_lw ?wtq (lv_cla T0 rfl rfl rfl rcA rfl) rfl rfl rfl ?_) | (show AWL _ _ _ (⟨_, .pick _ _ _, _, _, _, _⟩ :: _) _ _ _; refine awl_pw ?wtq (pv_pick_f rfl rfl tfA rfl) rfl rfl ?_)); case wtq => exact wtA) | refine awl_sk (wf_some rfl rfl rfl rfl tfA) rfl rfl ?_ | refine awl_sku (wu_some rfl rfl rfl rfl) rfl rfl ?_ | refine awl_nil ?_)
    exact body_p (.cons rfl .nil) ⟨false, (fun h => by cases h), rfl⟩
  have h2 := hth
  rw [Bool.and_eq_true, Bool.and_eq_true, decide_eq_true_eq, decide_eq_true_eq] at h2
  have hF := reffault_p m (by omega) (by omega)
  by_cases hf : faultN m = 0
  case neg =>
    have d1 : decide (faultN m ≠ 0) = true := decide_eq_true hf
    repeat (first | refine awp_seq ?_ | refine awp_region_lit rfl ?_)
    refine awl_hw wtA (st_box rfl rfl raA (by first | assumption | (simp only [cellsA]; rfl)) rfl rfl ?_)
    intro g2
    repeat (first | refine awp_seq ?_ | refine awp_region_lit rfl ?_ | ((first | (show AWL _ _ _ (⟨_, .assign _, _, _, _, _⟩ :: _) _ _ _; refine awl_pw ?wtq (pv_assign rfl rfl) rfl rfl ?_) | (show AWL _ _ _ (⟨_, .load _ _, _, _, _, _⟩ :: _) _ _ _; refine awl_lw ?wtq (lv_cla T0 rfl rfl rfl rcA rfl) rfl rfl rfl ?_)); case wtq => exact wtA) | refine awl_nil ?_)
    refine awl_hw wtA (st_acall T0 (hT true hth) rfl rfl rfl rfl (by first | exact callee_lit | exact callee_v | exact callee_fn | assumption) rcA raA rfl (by first | ((repeat' (first | exact SubH.refl _ | apply SubH.cons | exact Pick.here | apply Pick.there)); all_goals fail) | fail) (fun _ _ => trivial) ?_)
    rintro r h' ⟨rfl, rfl⟩
    repeat (first | ((first | (show AWL _ _ _ (⟨_, .move _, _, _, _, _⟩ :: _) _ _ _; refine awl_pw ?wtq (pv_move rfl rfl) rfl rfl ?_) | (show AWL _ _ _ (⟨_, .load _ _, _, _, _, _⟩ :: _) _ _ _; refine awl_lw ?wtq (lv_cla T0 rfl rfl rfl rcA rfl) rfl rfl rfl ?_)); case wtq => exact wtA))
    refine awl_hw wtA (st_call T0 (hF) rfl rfl rfl rfl (by first | exact callee_lit | exact callee_v | exact callee_fn | assumption) rcA raA rfl ?_)
    rintro _ rfl
    repeat (first | refine awp_ret ?_ | ((first | (show AWL _ _ _ (⟨_, .move _, _, _, _, _⟩ :: _) _ _ _; refine awl_pw ?wtq (pv_move rfl rfl) rfl rfl ?_) | (show AWL _ _ _ (⟨_, .assign _, _, _, _, _⟩ :: _) _ _ _; refine awl_pw ?wtq (pv_assign rfl rfl) rfl rfl ?_) | (show AWL _ _ _ (⟨_, .load _ _, _, _, _, _⟩ :: _) _ _ _; refine awl_lw ?wtq (lv_cla T0 rfl rfl rfl rcA rfl) rfl rfl rfl ?_) | (show AWL _ _ _ (⟨_, .binOp .neq _ _ _ _, _, _, _, _⟩ :: _) _ _ _; refine awl_pw ?wtq (pv_neq rfl rfl rfl) rfl rfl ?_) | (show AWL _ _ _ (⟨_, .pick _ _ _, _, _, _, _⟩ :: _) _ _ _; refine awl_pw ?wtq (pv_pick_t rfl rfl tfA rfl) rfl rfl ?_)); case wtq => exact wtA) | refine awl_sk (wf_some rfl rfl rfl rfl tfA) rfl rfl ?_ | refine awl_nil ?_)
    exact body_p (.cons rfl .nil) ⟨true, (fun _ => ⟨h2.1, fun h => absurd h hf⟩), rfl⟩
  have hv := vmkt hf
  rw [hf] at hF
  repeat (first | refine awp_seq ?_ | refine awp_region_lit rfl ?_)
  refine awl_hw wtA (st_box rfl rfl raA (by first | assumption | (simp only [cellsA]; rfl)) rfl rfl ?_)
  intro g2
  repeat (first | refine awp_seq ?_ | refine awp_region_lit rfl ?_ | ((first | (show AWL _ _ _ (⟨_, .assign _, _, _, _, _⟩ :: _) _ _ _; refine awl_pw ?wtq (pv_assign rfl rfl) rfl rfl ?_) | (show AWL _ _ _ (⟨_, .load _ _, _, _, _, _⟩ :: _) _ _ _; refine awl_lw ?wtq (lv_cla T0 rfl rfl rfl rcA rfl) rfl rfl rfl ?_)); case wtq => exact wtA) | refine awl_nil ?_)
  refine awl_hw wtA (st_acall T0 (hT true hth) rfl rfl rfl rfl (by first | exact callee_lit | exact callee_v | exact callee_fn | assumption) rcA raA rfl (by first | ((repeat' (first | exact SubH.refl _ | apply SubH.cons | exact Pick.here | apply Pick.there)); all_goals fail) | fail) (fun _ _ => trivial) ?_)
  rintro r h' ⟨rfl, rfl⟩
  repeat (first | ((first | (show AWL _ _ _ (⟨_, .move _, _, _, _, _⟩ :: _) _ _ _; refine awl_pw ?wtq (pv_move rfl rfl) rfl rfl ?_) | (show AWL _ _ _ (⟨_, .load _ _, _, _, _, _⟩ :: _) _ _ _; refine awl_lw ?wtq (lv_cla T0 rfl rfl rfl rcA rfl) rfl rfl rfl ?_)); case wtq => exact wtA))
  refine awl_hw wtA (st_call T0 (hF) rfl rfl rfl rfl (by first | exact callee_lit | exact callee_v | exact callee_fn | assumption) rcA raA rfl ?_)
  rintro _ rfl
  repeat (first | ((first | (show AWL _ _ _ (⟨_, .move _, _, _, _, _⟩ :: _) _ _ _; refine awl_pw ?wtq (pv_move rfl rfl) rfl rfl ?_) | (show AWL _ _ _ (⟨_, .load _ _, _, _, _, _⟩ :: _) _ _ _; refine awl_lw ?wtq (lv_cla T0 rfl rfl rfl rcA rfl) rfl rfl rfl ?_) | (show AWL _ _ _ (⟨_, .binOp .neq _ _ _ _, _, _, _, _⟩ :: _) _ _ _; refine awl_pw ?wtq (pv_neq rfl rfl rfl) rfl rfl ?_)); case wtq => exact wtA))
  refine awl_hw wtA (st_call T0 (many_any false false m hv) rfl rfl rfl rfl (by first | exact callee_lit | exact callee_v | exact callee_fn | assumption) rcA raA rfl ?_)
  rintro r ⟨x, rfl, hx1, hx2, hx3⟩
  repeat (first | refine awp_ret ?_ | ((first | (show AWL _ _ _ (⟨_, .move _, _, _, _, _⟩ :: _) _ _ _; refine awl_pw ?wtq (pv_move rfl rfl) rfl rfl ?_) | (show AWL _ _ _ (⟨_, .assign _, _, _, _, _⟩ :: _) _ _ _; refine awl_pw ?wtq (pv_assign rfl rfl) rfl rfl ?_) | (show AWL _ _ _ (⟨_, .binOp .leq _ _ _ _, _, _, _, _⟩ :: _) _ _ _; refine awl_pw ?wtq (pv_leq rfl rfl rfl) rfl rfl ?_) | (show AWL _ _ _ (⟨_, .pick _ _ _, _, _, _, _⟩ :: _) _ _ _; refine awl_pw ?wtq (pv_pick_t rfl rfl tfA rfl) rfl rfl ?_) | (show AWL _ _ _ (⟨_, .pick _ _ _, _, _, _, _⟩ :: _) _ _ _; refine awl_pw ?wtq (pv_pick_f rfl rfl tfA rfl) rfl rfl ?_)); case wtq => exact wtA) | refine awl_nil ?_)
  exact body_p (.cons rfl .nil) ⟨decide (x ≤ mx), (fun h => ⟨h2.1, fun _ => by have := of_decide_eq_true h; have := hx1 (by omega); omega⟩), rfl⟩
end Go.Proofs.Ytallicfckbdeaaa
