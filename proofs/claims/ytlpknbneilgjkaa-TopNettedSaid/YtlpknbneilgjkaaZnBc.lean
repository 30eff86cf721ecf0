/- Small functions of package short: walks. -/
import Derived.Test.YtlpknbneilgjkaaZnBb
import Derived.Test.YtlpknbneilgjkaaZnRFr
import Derived.Test.YtlpknbneilgjkaaZnGTs
namespace Go.Tl
open Go Go.RowKit
set_option linter.unusedVariables false
set_option linter.unusedSimpArgs false
section
variable {P : Program} {N : Nat} {o : Oper} {md : Nat → Prop} {s : Slots} {h h1 : List Ent} {K : Slots → List Ent → Prop}
/-- make, of elements of more than one cell, all of whose zero cells are the same -/
theorem aop_makeN (T : TT P) {t e bt d n sz : Nat} {z z0 : Value} {x y : Operand} (ho : o.op = .makeSlice t x y) (hd : o.dst = some d) (hN : Nat.blt d N = true) (ht : f2 T.elm t = some (e, sz, bt)) (hz : f2 T.zer e = some z) (hz1 : z.cells = Array.replicate sz z0) (hsz0 : 0 < sz) (hsz9 : sz ≤ 1000) (hx : evA s x = some (intA n)) (hy : evA s y = some (intA n)) (hn : n ≤ 1000000) (hbt : Nat.ble bt 1000 = true)
    (hK : ∀ g, K ((d, .v (.slice (some ⟨g, 0, none⟩) n n)) :: s) (.rw (.slice (some ⟨g, 0, none⟩) n n) e sz (List.replicate n (List.replicate sz (.v z0))) :: h)) : AOp P N o md s h K := fun B w S a hs Kr Qr hk => by
  obtain ⟨j, hund, hj, hjs, hjb, hne⟩ := T.elm_at ht
  have h1 := zOk_at T.zerOk hz
  obtain ⟨i, hi, hiz⟩ := Option.map_eq_some_iff.1 h1
  rw [hj] at hi
  simp at hi
  subst hi
  have hbt' := Nat.le_of_ble_eq_true hbt
  have hmc : madeCells z.cells (n * j.size) = Array.replicate (n * sz) z0 := by
    rw [hz1, hjs]
    apply Array.ext
    · simp [madeCells]
    · intro q h1 h2
      have : q % sz < sz := Nat.mod_lt _ hsz0
      simp [madeCells, this]
  have hrun : (execOp a.eval o).run P w = .ok (.value (.slice (some ⟨w.heap.size, 0, none⟩) n n)) (w.alloc (.cells (Array.replicate (n * sz) z0) e)) := by
    have hb2 : (j.bytes : Int) * (n : Int) ≤ 281474976710656 := by
      rw [hjb]
      have : bt * n ≤ 1000000000 := Nat.le_trans (Nat.mul_le_mul hbt' hn) (by decide)
      rw [← Int.natCast_mul]
      omega
    have := run_make (P := P) w t e j z hund hj hiz .i64 .i64 n n (by omega) (by omega) hb2 (by omega)
    simp only [Int.toNat_natCast, hmc] at this
    simp [execOp, ho, hs.slots.lit hx, hs.slots.lit hy, this]
  unfold wpX
  rw [hd] at hk
  rw [hrun, Oper.uponIn_value, hd]
  have hold := fun b hb => alloc_old w (.cells (Array.replicate (n * sz) z0) e) b hb
  have hfl : (List.replicate n (List.replicate sz (AV.v z0))).flatten = (List.replicate (n * sz) z0).map AV.v := by
    rw [List.map_replicate]
    clear hK hk hmc hrun hold hn hx hy
    induction n with
    | zero => simp
    | succ n ih => rw [List.replicate_succ, List.flatten_cons, ih, List.replicate_append_replicate, Nat.succ_mul, Nat.add_comm]
  refine hk _ _ S _ _ (hK w.heap.size) ((hs.push (w' := w.alloc (.cells (Array.replicate (n * sz) z0) e)) (grw_alloc _ _) (e := .rw (.slice (some ⟨w.heap.size, 0, none⟩) n n) e sz (List.replicate n (List.replicate sz (.v z0)))) ⟨List.replicate (n * sz) z0, ?_, by rw [hfl]; exact .lits _, fun r hr => by rw [(List.mem_replicate.1 hr).2]; simp⟩ (fun g hg => by simp [Ent.blk, Value.ownBlock] at hg; omega)).put (.v _) (blt_lt hN)) (upd_push (by simp) hold)
  have := World.ownsRow_lit (base := 0) (e := e) (size := sz) w (Array.replicate (n * sz) z0) n (Nat.zero_le _) (by unfold maxLen; omega) (by simp)
  simpa using this
end
end Go.Tl
namespace Go.Proofs.Ytlpknbneilgjkaa.S
open Go Go.RowKit Go.Tl
set_option linter.unusedVariables false
set_option linter.unusedSimpArgs false
set_option maxRecDepth 100000
set_option maxHeartbeats 4000000
attribute [local irreducible] AWP AWL AOp PV LV AWT AWE
theorem work_o (cs cl cd : Bool) (hn : Nat) (ds : List DueD) : ACall Try.prog 61 [ledA cs cl cd hn ds] [] (fun r h' => ∃ gw gm, r = .v (ptrV gw) ∧ h' = [.cl gw 244 (ledC cs cl cd hn ds ++ [.v (.map (some gm))])]) := by
  refine acall_of_awp T0 Try.func61 rfl rfl rfl ?_
  repeat (first | refine awp_seq ?_ | refine awp_region_lit rfl ?_)
  refine awl_hw wtA (st_box rfl rfl raA (by first | assumption | (simp only [cellsA]; rfl)) rfl rfl ?_)
  intro g1
  repeat (first | refine awp_seq ?_ | refine awp_region_lit rfl ?_ | ((first | (show AWL _ _ _ (⟨_, .assign _, _, _, _, _⟩ :: _) _ _ _; refine awl_pw ?wtq (pv_assign rfl rfl) rfl rfl ?_) | (show AWL _ _ _ (⟨_, .load _ _, _, _, _, _⟩ :: _) _ _ _; refine awl_lw ?wtq (lv_cla T0 rfl rfl rfl rcA rfl) rfl rfl rfl ?_)); case wtq => exact wtA) | refine awl_nil ?_)
  refine awl_hw wtA (aop_makeMap 0 rfl rfl rfl ?_)
  intro gm
  repeat (first | ((first | (show AWL _ _ _ (⟨_, .build _ _, _, _, _, _⟩ :: _) _ _ _; refine awl_pw ?wtq (pv_build T0 rfl rfl rfl scA (by first | ((repeat' (first | exact BParts.nil | apply BParts.cons | rfl)); all_goals fail) | fail) (by first | ((repeat' (first | exact FillA.nil | exact Sp.done | apply FillA.cons | apply Sp.put | apply Sp.skip | (simp only [cellsA]; rfl) | rfl)); all_goals fail) | fail)) rfl rfl ?_)); case wtq => exact wtA))
  refine awl_hw wtA (st_box rfl rfl raA (by first | assumption | (simp only [cellsA]; rfl)) rfl rfl ?_)
  intro gw
  repeat (first | refine awp_ret ?_ | ((first | (show AWL _ _ _ (⟨_, .assign _, _, _, _, _⟩ :: _) _ _ _; refine awl_pw ?wtq (pv_assign rfl rfl) rfl rfl ?_)); case wtq => exact wtA) | refine awl_nil ?_)
  exact body_r (h' := [.cl gw 244 (ledC cs cl cd hn ds ++ [.v (.map (some gm))])]) (.cons rfl .nil) rcA ⟨gw, gm, rfl, rfl⟩
/-- the sum of the first Numbers -/
def owS (ds : List DueD) : Nat → Int
  | 0 => 0
  | k + 1 => owS ds k + (ds.getD k default).num
/-- what is valid of dues -/
structure VDue (hn : Nat) (ds : List DueD) : Prop where
  h : 1 ≤ hn ∧ hn ≤ 4
  len : ds.length ≤ 6
  frm : ∀ k, k < ds.length → 0 ≤ (ds.getD k default).frm ∧ (ds.getD k default).frm < hn
  to : ∀ k, k < ds.length → 0 ≤ (ds.getD k default).to ∧ (ds.getD k default).to < hn
  ne : ∀ k, k < ds.length → (ds.getD k default).frm ≠ (ds.getD k default).to
  num : ∀ k, k < ds.length → 1 ≤ (ds.getD k default).num ∧ (ds.getD k default).num ≤ 4
theorem vdue_all {hn : Nat} {ds : List DueD} (hv : VDue hn ds) : ds.all (dueB hn) = true := by
  refine (all_getD (d := default)).2 fun k hk => ?_
  have h1 := hv.frm k hk
  have h2 := hv.to k hk
  have h3 := hv.ne k hk
  have h4 := hv.num k hk
  simp only [dueB, Bool.and_eq_true, inB_iff, decide_eq_true_eq]
  exact ⟨by omega, by omega, h3, h4⟩
theorem owS_bd {hn : Nat} {ds : List DueD} (hv : VDue hn ds) : ∀ k, k ≤ ds.length → 0 ≤ owS ds k ∧ owS ds k ≤ 4 * (k : Int)
  | 0, _ => by simp [owS]
  | k + 1, h => by
    have ih := owS_bd hv k (by omega)
    have := hv.num k (by omega)
    simp only [owS]
    omega
theorem owed_p (cs cl cd : Bool) (hn : Nat) (ds : List DueD) (hv : VDue hn ds) : PCall Try.prog 103 [ledA cs cl cd hn ds] (fun r => r = intA (owS ds ds.length)) := by
  have hlen := hv.len
  refine acall_of_awp T0 Try.func103 rfl rfl rfl ?_
  repeat (first | refine awp_seq ?_ | refine awp_region_lit rfl ?_)
  refine awl_hw wtA (st_box rfl rfl raA (by first | assumption | (simp only [cellsA]; rfl)) rfl rfl ?_)
  intro g1
  repeat (first | refine awp_seq ?_ | refine awp_block ?_ | refine awp_region_lit rfl ?_ | ((first | (show AWL _ _ _ (⟨_, .move _, _, _, _, _⟩ :: _) _ _ _; refine awl_pw ?wtq (pv_move rfl rfl) rfl rfl ?_) | (show AWL _ _ _ (⟨_, .assign _, _, _, _, _⟩ :: _) _ _ _; refine awl_pw ?wtq (pv_assign rfl rfl) rfl rfl ?_) | (show AWL _ _ _ (⟨_, .load _ _, _, _, _, _⟩ :: _) _ _ _; refine awl_lw ?wtq (lv_cl1 T0 rfl rfl rfl rcA raA) rfl rfl rfl ?_) | (show AWL _ _ _ (⟨_, .fieldAddr _ _ _, _, _, _, _⟩ :: _) _ _ _; refine awl_pw ?wtq (pv_fa T0 rfl rfl rfl (by simp; rfl)) rfl rfl ?_) | (show AWL _ _ _ (⟨_, .call ⟨.builtin .len, _, _⟩, _, _, _, _⟩ :: _) _ _ _; refine awl_pw ?wtq (pv_len_t T0 rfl rfl rfl) rfl rfl ?_)); case wtq => exact wtA) | refine awl_nil ?_)
  refine awp_loop (fun m s h => ∃ (k : Nat), k ≤ ds.length ∧ m = ds.length - k ∧ s = [(2, intA (owS ds k)), (6, .t (duesT cd ds)), (7, intA ds.length), (8, intA k)] ∧ h = []) ?_ ⟨0, Nat.zero_le _, rfl, rfl, rfl⟩ ssA rcA
  rintro m s h ⟨k, hk, rfl, rfl, rfl⟩
  by_cases hlt : k < ds.length
  · have hn1 := hv.num k hlt
    have hb := owS_bd hv k (by omega)
    repeat (first | refine awp_seq ?_ | refine awp_block ?_ | refine awp_region_lit rfl ?_ | refine awp_skip ?_ | refine awp_cond_t rfl (by first | rfl | assumption | exact dT (by omega)) ?_ | ((first | (show AWL _ _ _ (⟨_, .load _ _, _, _, _, _⟩ :: _) _ _ _; refine awl_lw ?wtq (lv_elt_ag T0 rfl rfl rfl rfl rcA) rfl rfl rfl ?_) | (show AWL _ _ _ (⟨_, .indexAddr _ _ _, _, _, _, _⟩ :: _) _ _ _; refine awl_pw ?wtq (pv_ix_t T0 rfl rfl rfl rfl (by omega) ixA) rfl rfl ?_) | (show AWL _ _ _ (⟨_, .binOp .lss _ _ _ _, _, _, _, _⟩ :: _) _ _ _; refine awl_pw ?wtq (pv_lss rfl rfl rfl) rfl rfl ?_)); case wtq => exact wtA) | refine awl_nil ?_)
    refine awl_hw wtA (st_alloc T0 rfl rfl rfl rfl scA ?_)
    intro g4
    repeat (first | refine awp_region_lit rfl ?_ | ((first | (show AWL _ _ _ (⟨_, .move _, _, _, _, _⟩ :: _) _ _ _; refine awl_pw ?wtq (pv_move rfl rfl) rfl rfl ?_) | (show AWL _ _ _ (⟨_, .assign _, _, _, _, _⟩ :: _) _ _ _; refine awl_pw ?wtq (pv_assign rfl rfl) rfl rfl ?_) | (show AWL _ _ _ (⟨_, .load _ _, _, _, _, _⟩ :: _) _ _ _; refine awl_lw ?wtq (lv_cl1 T0 rfl rfl rfl rcA raA) rfl rfl rfl ?_) | (show AWL _ _ _ (⟨_, .fieldAddr _ _ _, _, _, _, _⟩ :: _) _ _ _; refine awl_pw ?wtq (pv_fa T0 rfl rfl rfl (by simp; rfl)) rfl rfl ?_) | (show AWL _ _ _ (⟨_, .binOp .add _ _ _ _, _, _, _, _⟩ :: _) _ _ _; refine awl_pw ?wtq (pv_add rfl rfl rfl (by first | assumption | exact wr64 (by omega))) rfl rfl ?_)); case wtq => exact wtA) | (show AWL _ _ _ (⟨_, .store _ _ _, _, _, _, _⟩ :: _) _ _ _; refine awl_hw wtA (st_store T0 rfl rfl rfl rfl rfl (by first | assumption | (simp only [cellsA]; rfl)) rfl rfl rfl rcA rcA trivial ?_)) | refine awl_nil ?_)
    refine rnd_n _ _ _ ?_ ⟨k + 1, hlt, rfl, rfl, rfl⟩ ssA rcA
    omega
  obtain rfl : k = ds.length := by omega
  repeat (first | refine awp_seq ?_ | refine awp_region_lit rfl ?_ | refine awp_exit ?_ | refine awp_ret ?_ | refine awp_cond_f rfl (by first | rfl | assumption | exact dF (by omega)) ?_ | ((first | (show AWL _ _ _ (⟨_, .move _, _, _, _, _⟩ :: _) _ _ _; refine awl_pw ?wtq (pv_move rfl rfl) rfl rfl ?_) | (show AWL _ _ _ (⟨_, .assign _, _, _, _, _⟩ :: _) _ _ _; refine awl_pw ?wtq (pv_assign rfl rfl) rfl rfl ?_) | (show AWL _ _ _ (⟨_, .binOp .lss _ _ _ _, _, _, _, _⟩ :: _) _ _ _; refine awl_pw ?wtq (pv_lss rfl rfl rfl) rfl rfl ?_)); case wtq => exact wtA) | refine awl_nil ?_)
  exact body_p (.cons rfl .nil) rfl
theorem refowed_p (cs cl cd : Bool) (hn : Nat) (ds : List DueD) (hv : VDue hn ds) : PCall Try.prog 30 [ledA cs cl cd hn ds] (fun r => r = intA (owS ds ds.length)) := by
  have hlen := hv.len
  refine acall_of_awp T0 Try.func30 rfl rfl rfl ?_
  repeat (first | refine awp_seq ?_ | refine awp_region_lit rfl ?_)
  refine awl_hw wtA (st_box rfl rfl raA (by first | assumption | (simp only [cellsA]; rfl)) rfl rfl ?_)
  intro g1
  repeat (first | refine awp_seq ?_ | refine awp_block ?_ | refine awp_region_lit rfl ?_ | ((first | (show AWL _ _ _ (⟨_, .assign _, _, _, _, _⟩ :: _) _ _ _; refine awl_pw ?wtq (pv_assign rfl rfl) rfl rfl ?_)); case wtq => exact wtA) | refine awl_nil ?_)
  refine awp_loop (fun m s h => ∃ (k : Nat), k ≤ ds.length ∧ m = ds.length - k ∧ s = [(1, .v (ptrV g1)), (3, intA (owS ds k)), (4, intA k)] ∧ h = [.cl g1 91 (ledC cs cl cd hn ds)]) ?_ ⟨0, Nat.zero_le _, rfl, rfl, rfl⟩ ssA rcA
  rintro m s h ⟨k, hk, rfl, rfl, rfl⟩
  by_cases hlt : k < ds.length
  · have hn1 := hv.num k hlt
    have hb := owS_bd hv k (by omega)
    repeat (first | refine awp_seq ?_ | refine awp_block ?_ | refine awp_region_lit rfl ?_ | refine awp_skip ?_ | with_reducible refine then_n ?_ | refine awp_cond_t rfl (by first | rfl | assumption | exact dT (by omega)) ?_ | ((first | (show AWL _ _ _ (⟨_, .move _, _, _, _, _⟩ :: _) _ _ _; refine awl_pw ?wtq (pv_move rfl rfl) rfl rfl ?_) | (show AWL _ _ _ (⟨_, .assign _, _, _, _, _⟩ :: _) _ _ _; refine awl_pw ?wtq (pv_assign rfl rfl) rfl rfl ?_) | (show AWL _ _ _ (⟨_, .load _ _, _, _, _, _⟩ :: _) _ _ _; refine awl_lw ?wtq (lv_cl1 T0 rfl rfl rfl rcA raA) rfl rfl rfl ?_) | (show AWL _ _ _ (⟨_, .load _ _, _, _, _, _⟩ :: _) _ _ _; refine awl_lw ?wtq (lv_elt_sc T0 rfl rfl rfl rfl) rfl rfl rfl ?_) | (show AWL _ _ _ (⟨_, .fieldAddr _ _ _, _, _, _, _⟩ :: _) _ _ _; refine awl_pw ?wtq (pv_fa T0 rfl rfl rfl (by simp; rfl)) rfl rfl ?_) | (show AWL _ _ _ (⟨_, .fieldAddr _ _ _, _, _, _, _⟩ :: _) _ _ _; refine awl_pw ?wtq (pv_fa_elt T0 rfl rfl rfl (by simp; rfl)) rfl rfl ?_) | (show AWL _ _ _ (⟨_, .indexAddr _ _ _, _, _, _, _⟩ :: _) _ _ _; refine awl_pw ?wtq (pv_ix_t T0 rfl rfl rfl rfl (by omega) ixA) rfl rfl ?_) | (show AWL _ _ _ (⟨_, .binOp .add _ _ _ _, _, _, _, _⟩ :: _) _ _ _; refine awl_pw ?wtq (pv_add rfl rfl rfl (by first | assumption | exact wr64 (by omega))) rfl rfl ?_) | (show AWL _ _ _ (⟨_, .binOp .lss _ _ _ _, _, _, _, _⟩ :: _) _ _ _; refine awl_pw ?wtq (pv_lss rfl rfl rfl) rfl rfl ?_) | (show AWL _ _ _ (⟨_, .call ⟨.builtin .len, _, _⟩, _, _, _, _⟩ :: _) _ _ _; refine awl_pw ?wtq (pv_len_t T0 rfl rfl rfl) rfl rfl ?_)); case wtq => exact wtA) | refine awl_nil ?_)
    refine rnd_n _ _ _ ?_ ⟨k + 1, hlt, rfl, rfl, rfl⟩ ssA rcA
    omega
  obtain rfl : k = ds.length := by omega
  repeat (first | refine awp_seq ?_ | refine awp_region_lit rfl ?_ | refine awp_exit ?_ | refine awp_ret ?_ | with_reducible refine then_n ?_ | refine awp_cond_f rfl (by first | rfl | assumption | exact dF (by omega)) ?_ | ((first | (show AWL _ _ _ (⟨_, .move _, _, _, _, _⟩ :: _) _ _ _; refine awl_pw ?wtq (pv_move rfl rfl) rfl rfl ?_) | (show AWL _ _ _ (⟨_, .assign _, _, _, _, _⟩ :: _) _ _ _; refine awl_pw ?wtq (pv_assign rfl rfl) rfl rfl ?_) | (show AWL _ _ _ (⟨_, .load _ _, _, _, _, _⟩ :: _) _ _ _; refine awl_lw ?wtq (lv_cl1 T0 rfl rfl rfl rcA raA) rfl rfl rfl ?_) | (show AWL _ _ _ (⟨_, .fieldAddr _ _ _, _, _, _, _⟩ :: _) _ _ _; refine awl_pw ?wtq (pv_fa T0 rfl rfl rfl (by simp; rfl)) rfl rfl ?_) | (show AWL _ _ _ (⟨_, .binOp .lss _ _ _ _, _, _, _, _⟩ :: _) _ _ _; refine awl_pw ?wtq (pv_lss rfl rfl rfl) rfl rfl ?_) | (show AWL _ _ _ (⟨_, .call ⟨.builtin .len, _, _⟩, _, _, _, _⟩ :: _) _ _ _; refine awl_pw ?wtq (pv_len_t T0 rfl rfl rfl) rfl rfl ?_)); case wtq => exact wtA) | refine awl_nil ?_)
  exact body_p (.cons rfl .nil) rfl
theorem min2_p (cp : Bool) (x y : Int) : PCall Try.prog 151 [.t (intsT cp [x, y])] (fun r => r = intA (min x y)) := by
  refine acall_of_awp T0 Try.func151 rfl rfl rfl ?_
  repeat (first | refine awp_seq ?_ | refine awp_region_lit rfl ?_ | ((first | (show AWL _ _ _ (⟨_, .move _, _, _, _, _⟩ :: _) _ _ _; refine awl_pw ?wtq (pv_move rfl rfl) rfl rfl ?_) | (show AWL _ _ _ (⟨_, .assign _, _, _, _, _⟩ :: _) _ _ _; refine awl_pw ?wtq (pv_assign rfl rfl) rfl rfl ?_)); case wtq => exact wtA) | refine awl_nil ?_)
  refine awl_hw wtA (st_call T0 (C.smin_p cp [x, y] (by simp) (by simp)) rfl rfl rfl rfl (by first | exact callee_lit | exact callee_v | exact callee_fn | assumption) rcA raA rfl ?_)
  rintro _ rfl
  repeat (first | refine awp_ret ?_ | ((first | (show AWL _ _ _ (⟨_, .assign _, _, _, _, _⟩ :: _) _ _ _; refine awl_pw ?wtq (pv_assign rfl rfl) rfl rfl ?_)); case wtq => exact wtA) | refine awl_nil ?_)
  exact body_p (.cons rfl .nil) rfl
theorem min2_o (g : Nat) (x y : Int) : ACall Try.prog 151 [.v (.slice (some ⟨g, 0, none⟩) 2 2)] [.rw (.slice (some ⟨g, 0, none⟩) 2 2) 3 1 [[intA x], [intA y]]] (fun r h' => r = intA (min x y) ∧ h' = []) :=
  acall_own (min2_p true x y) rfl (intRows_tree [x, y])
theorem hand1_p {x : Int} {r : Bool} (h : inB x 0 4 = r) : PCall Try.prog 102 [intA x] (fun y => y = boolA r) := by
  refine acall_of_awp T0 Try.func102 rfl rfl rfl ?_
  repeat (first | refine awp_seq ?_ | refine awp_region_lit rfl ?_ | ((first | (show AWL _ _ _ (⟨_, .move _, _, _, _, _⟩ :: _) _ _ _; refine awl_pw ?wtq (pv_move rfl rfl) rfl rfl ?_) | (show AWL _ _ _ (⟨_, .assign _, _, _, _, _⟩ :: _) _ _ _; refine awl_pw ?wtq (pv_assign rfl rfl) rfl rfl ?_)); case wtq => exact wtA) | refine awl_nil ?_)
  refine awl_hw wtA (st_call T0 (within_q h) rfl rfl rfl rfl (by first | exact callee_lit | exact callee_v | exact callee_fn | assumption) rcA raA rfl ?_)
  rintro _ rfl
  repeat (first | refine awp_ret ?_ | ((first | (show AWL _ _ _ (⟨_, .assign _, _, _, _, _⟩ :: _) _ _ _; refine awl_pw ?wtq (pv_assign rfl rfl) rfl rfl ?_)); case wtq => exact wtA) | refine awl_nil ?_)
  exact body_p (.cons rfl .nil) rfl
abbrev handA : AV := .ag [intA 0, intA 0, intA 0, intA 0]
theorem copy4 (n : Nat) (h : 1 ≤ n ∧ n ≤ 4) : spA [intA 0, intA 0, intA 0, intA 0] 0 (((List.range (min n 4)).map fun k => ([Tr.sc (.int .i64 ((List.replicate n (0 : Int)).getD k 0))] : List Tr).map AV.ofTr).flatten) = [intA 0, intA 0, intA 0, intA 0] := by
  obtain rfl | rfl | rfl | rfl : n = 1 ∨ n = 2 ∨ n = 3 ∨ n = 4 := by omega
  all_goals rfl
theorem handOf_p (cs cl cd ch : Bool) (hn : Nat) (ds : List DueD) (hb : 1 ≤ hn ∧ hn ≤ 4) : PCall Try.prog 60 [ledA cs cl cd hn ds, .t (.sl ch 1 hn (fun k => [Tr.sc (.int .i64 ((List.replicate hn (0 : Int)).getD k 0))]))] (fun r => r = .tup [handA, boolA true]) := by
  have hA : (List.replicate hn (0 : Int)).all (fun x => inB x 0 4) = true := by
    rw [List.all_eq_true]
    intro x hx
    rw [(List.mem_replicate.1 hx).2]
    rfl
  have hS := iall_p (g := 102) (fs := []) (cs := []) (p := fun x => inB x 0 4) ch (List.replicate hn 0) (by simp; omega) (pv := .v (.func (.func 102) #[] #[])) rfl callee_v rfl (fun c _ => hand1_p rfl)
  rw [hA] at hS
  unfold intsT at hS
  simp only [List.length_replicate] at hS
  have hcopy := copy4 hn hb
  have d1 : decide ((hn : Int) ≠ hn) = false := decide_eq_false (fun h => h rfl)
  refine acall_of_awp T0 Try.func60 rfl rfl rfl ?_
  repeat (first | refine awp_seq ?_ | refine awp_region_lit rfl ?_)
  refine awl_hw wtA (st_box rfl rfl raA (by first | assumption | (simp only [cellsA]; rfl)) rfl rfl ?_)
  intro g2
  skip
  refine awl_hw wtA (st_alloc T0 rfl rfl rfl rfl scA ?_)
  intro g4
  repeat (first | refine awp_seq ?_ | refine awp_region_lit rfl ?_ | ((first | (show AWL _ _ _ (⟨_, .move _, _, _, _, _⟩ :: _) _ _ _; refine awl_pw ?wtq (pv_move rfl rfl) rfl rfl ?_) | (show AWL _ _ _ (⟨_, .assign _, _, _, _, _⟩ :: _) _ _ _; refine awl_pw ?wtq (pv_assign rfl rfl) rfl rfl ?_) | (show AWL _ _ _ (⟨_, .load _ _, _, _, _, _⟩ :: _) _ _ _; refine awl_lw ?wtq (lv_cl1 T0 rfl rfl rfl rcA raA) rfl rfl rfl ?_) | (show AWL _ _ _ (⟨_, .fieldAddr _ _ _, _, _, _, _⟩ :: _) _ _ _; refine awl_pw ?wtq (pv_fa T0 rfl rfl rfl (by simp; rfl)) rfl rfl ?_) | (show AWL _ _ _ (⟨_, .binOp .neq _ _ _ _, _, _, _, _⟩ :: _) _ _ _; refine awl_pw ?wtq (pv_neq rfl rfl rfl) rfl rfl ?_) | (show AWL _ _ _ (⟨_, .call ⟨.builtin .len, _, _⟩, _, _, _, _⟩ :: _) _ _ _; refine awl_pw ?wtq (pv_len_t T0 rfl rfl rfl) rfl rfl ?_)); case wtq => exact wtA) | refine awl_nil ?_)
  refine awl_hw wtA (st_call T0 (hS) rfl rfl rfl rfl (by first | exact callee_lit | exact callee_v | exact callee_fn | assumption) rcA raA rfl ?_)
  rintro _ rfl
  repeat (first | refine awp_seq ?_ | refine awp_region_lit rfl ?_ | refine awp_skip ?_ | with_reducible refine then_n ?_ | refine awp_cond_f rfl (by first | rfl | assumption | exact dF (by omega)) ?_ | ((first | (show AWL _ _ _ (⟨_, .move _, _, _, _, _⟩ :: _) _ _ _; refine awl_pw ?wtq (pv_move rfl rfl) rfl rfl ?_) | (show AWL _ _ _ (⟨_, .slice _ _ _ _ _, _, _, _, _⟩ :: _) _ _ _; refine awl_pw ?wtq (pv_slice_arr T0 rfl rfl rfl) rfl rfl ?_) | (show AWL _ _ _ (⟨_, .unOp .not _ _, _, _, _, _⟩ :: _) _ _ _; refine awl_pw ?wtq (pv_not rfl rfl) rfl rfl ?_) | (show AWL _ _ _ (⟨_, .pick _ _ _, _, _, _, _⟩ :: _) _ _ _; refine awl_pw ?wtq (pv_pick_f rfl rfl tfA rfl) rfl rfl ?_)); case wtq => exact wtA) | refine awl_nil ?_)
  refine awl_hw wtA (st_copy T0 (hcopy) rfl rfl rfl rfl rfl rfl rcA rfl (by intro k hk u hu; simp at hu; subst hu; rfl) trivial ?_)
  repeat (first | refine awp_seq ?_ | refine awp_region_lit rfl ?_ | refine awp_ret ?_ | ((first | (show AWL _ _ _ (⟨_, .assign _, _, _, _, _⟩ :: _) _ _ _; refine awl_pw ?wtq (pv_assign rfl rfl) rfl rfl ?_) | (show AWL _ _ _ (⟨_, .load _ _, _, _, _, _⟩ :: _) _ _ _; refine awl_lw ?wtq (lv_cla T0 rfl rfl rfl rcA rfl) rfl rfl rfl ?_)); case wtq => exact wtA) | (show AWL _ _ _ (⟨_, .store _ _ _, _, _, _, _⟩ :: _) _ _ _; refine awl_hw wtA (st_store T0 rfl rfl rfl rfl rfl (by first | assumption | (simp only [cellsA]; rfl)) rfl rfl rfl rcA rcA trivial ?_)) | refine awl_nil ?_)
  exact body_p (res_cell rfl rfl rcA rfl rfl rfl (.cons rfl .nil)) rfl
end Go.Proofs.Ytlpknbneilgjkaa.S
