/- margin.Bounds (Try.func18) and what it calls: walks. -/
import Derived.Test.YtlpknbneilgjkaaMV0
import Derived.Test.YtlpknbneilgjkaaGTy
import Derived.Test.YtlpknbneilgjkaaGTs
import Derived.Test.YtlpknbneilgjkaaGPa
namespace Go.Proofs.Ytlpknbneilgjkaa.M
open Go Go.RowKit Go.Tl
set_option linter.unusedVariables false
set_option linter.unusedSimpArgs false
set_option maxRecDepth 100000
set_option maxHeartbeats 4000000
attribute [local irreducible] AWP AWL AOp PV LV AWT AWE
theorem sel_p (y : Bool) (r : Rng) : PCall Try.prog (selF y) [rngA r] (fun x => x = intA (sel y r)) := by
  cases y
  · show PCall Try.prog 90 [rngA r] _
    refine acall_of_awp T0 Try.func90 rfl rfl rfl ?_
    repeat (first | refine awp_seq ?_ | refine awp_region_lit rfl ?_)
    refine awl_hw wtA (st_box rfl rfl raA (by first | assumption | (simp only [cellsA]; rfl)) rfl rfl ?_)
    intro g1
    repeat (first | refine awp_seq ?_ | refine awp_region_lit rfl ?_ | refine awp_ret ?_ | ((first | (show AWL _ _ _ (⟨_, .assign _, _, _, _, _⟩ :: _) _ _ _; refine awl_pw ?wtq (pv_assign rfl rfl) rfl rfl ?_) | (show AWL _ _ _ (⟨_, .load _ _, _, _, _, _⟩ :: _) _ _ _; refine awl_lw ?wtq (lv_cl1 T0 rfl rfl rfl rcA raA) rfl rfl rfl ?_) | (show AWL _ _ _ (⟨_, .fieldAddr _ _ _, _, _, _, _⟩ :: _) _ _ _; refine awl_pw ?wtq (pv_fa T0 rfl rfl rfl (by simp; rfl)) rfl rfl ?_)); case wtq => exact wtA) | refine awl_nil ?_)
    exact body_p (.cons rfl .nil) rfl
  · show PCall Try.prog 91 [rngA r] _
    refine acall_of_awp T0 Try.func91 rfl rfl rfl ?_
    repeat (first | refine awp_seq ?_ | refine awp_region_lit rfl ?_)
    refine awl_hw wtA (st_box rfl rfl raA (by first | assumption | (simp only [cellsA]; rfl)) rfl rfl ?_)
    intro g1
    repeat (first | refine awp_seq ?_ | refine awp_region_lit rfl ?_ | refine awp_ret ?_ | ((first | (show AWL _ _ _ (⟨_, .assign _, _, _, _, _⟩ :: _) _ _ _; refine awl_pw ?wtq (pv_assign rfl rfl) rfl rfl ?_) | (show AWL _ _ _ (⟨_, .load _ _, _, _, _, _⟩ :: _) _ _ _; refine awl_lw ?wtq (lv_cl1 T0 rfl rfl rfl rcA raA) rfl rfl rfl ?_) | (show AWL _ _ _ (⟨_, .fieldAddr _ _ _, _, _, _, _⟩ :: _) _ _ _; refine awl_pw ?wtq (pv_fa T0 rfl rfl rfl (by simp; rfl)) rfl rfl ?_)); case wtq => exact wtA) | refine awl_nil ?_)
    exact body_p (.cons rfl .nil) rfl
theorem spot_p (cp : Bool) (b : BankD) (i : Nat) (hi : i < b.loans.length) (hl : b.loans.length ≤ 1000) (hd : 1 ≤ b.days.length ∧ b.days.length ≤ 1000) : PCall Try.prog 50 [bankA cp b, .ag [intA i, intA 0]] (fun r => r = boolA true) := by
  refine acall_of_awp T0 Try.func50 rfl rfl rfl ?_
  repeat (first | refine awp_seq ?_ | refine awp_region_lit rfl ?_)
  refine awl_hw wtA (st_box rfl rfl raA (by first | assumption | (simp only [cellsA]; rfl)) rfl rfl ?_)
  intro g2
  skip
  refine awl_hw wtA (st_box rfl rfl raA (by first | assumption | (simp only [cellsA]; rfl)) rfl rfl ?_)
  intro g3
  repeat (first | refine awp_seq ?_ | refine awp_region_lit rfl ?_ | ((first | (show AWL _ _ _ (⟨_, .assign _, _, _, _, _⟩ :: _) _ _ _; refine awl_pw ?wtq (pv_assign rfl rfl) rfl rfl ?_) | (show AWL _ _ _ (⟨_, .load _ _, _, _, _, _⟩ :: _) _ _ _; refine awl_lw ?wtq (lv_cl1 T0 rfl rfl rfl rcA raA) rfl rfl rfl ?_) | (show AWL _ _ _ (⟨_, .fieldAddr _ _ _, _, _, _, _⟩ :: _) _ _ _; refine awl_pw ?wtq (pv_fa T0 rfl rfl rfl (by simp; rfl)) rfl rfl ?_) | (show AWL _ _ _ (⟨_, .binOp .sub _ _ _ _, _, _, _, _⟩ :: _) _ _ _; refine awl_pw ?wtq (pv_sub rfl rfl rfl (by first | assumption | exact wr64 (by omega))) rfl rfl ?_) | (show AWL _ _ _ (⟨_, .call ⟨.builtin .len, _, _⟩, _, _, _, _⟩ :: _) _ _ _; refine awl_pw ?wtq (pv_len_t T0 rfl rfl rfl) rfl rfl ?_)); case wtq => exact wtA) | refine awl_nil ?_)
  refine awl_hw wtA (st_call T0 (within_q (n := (i : Int)) (lo := 0) (hi := (b.loans.length : Int) - 1) (r := true) (inB_iff.2 (by omega))) rfl rfl rfl rfl (by first | exact callee_lit | exact callee_v | exact callee_fn | assumption) rcA raA rfl ?_)
  rintro _ rfl
  repeat (first | ((first | (show AWL _ _ _ (⟨_, .move _, _, _, _, _⟩ :: _) _ _ _; refine awl_pw ?wtq (pv_move rfl rfl) rfl rfl ?_) | (show AWL _ _ _ (⟨_, .load _ _, _, _, _, _⟩ :: _) _ _ _; refine awl_lw ?wtq (lv_cl1 T0 rfl rfl rfl rcA raA) rfl rfl rfl ?_) | (show AWL _ _ _ (⟨_, .fieldAddr _ _ _, _, _, _, _⟩ :: _) _ _ _; refine awl_pw ?wtq (pv_fa T0 rfl rfl rfl (by simp; rfl)) rfl rfl ?_) | (show AWL _ _ _ (⟨_, .binOp .sub _ _ _ _, _, _, _, _⟩ :: _) _ _ _; refine awl_pw ?wtq (pv_sub rfl rfl rfl (by first | assumption | exact wr64 (by omega))) rfl rfl ?_) | (show AWL _ _ _ (⟨_, .call ⟨.builtin .len, _, _⟩, _, _, _, _⟩ :: _) _ _ _; refine awl_pw ?wtq (pv_len_t T0 rfl rfl rfl) rfl rfl ?_)); case wtq => exact wtA))
  refine awl_hw wtA (st_call T0 (within_q (n := 0) (lo := 0) (hi := (b.days.length : Int) - 1) (r := true) (inB_iff.2 (by omega))) rfl rfl rfl rfl (by first | exact callee_lit | exact callee_v | exact callee_fn | assumption) rcA raA rfl ?_)
  rintro _ rfl
  repeat (first | refine awp_ret ?_ | ((first | (show AWL _ _ _ (⟨_, .assign _, _, _, _, _⟩ :: _) _ _ _; refine awl_pw ?wtq (pv_assign rfl rfl) rfl rfl ?_) | (show AWL _ _ _ (⟨_, .pick _ _ _, _, _, _, _⟩ :: _) _ _ _; refine awl_pw ?wtq (pv_pick_t rfl rfl tfA rfl) rfl rfl ?_)); case wtq => exact wtA) | refine awl_nil ?_)
  exact body_p (.cons rfl .nil) rfl
section
variable {g4 g5 g6 gw gm g11 g13 i n c c' : Nat} {b : BankD} {hi : Bool} {d : DayD} {p : List Int} {a a' : Option Addr} {rows rows' : List (List AV)} {e4 e6 em : Ent} {u24 u25 : AV}
theorem mv_14 (h1 : rows.length = i) (h2 : rows'.length = i) (hi8 : i ≤ 8) (hf : T0.fns.any (selF hi).beq = true) {ops : Array Oper} (h : regF Try.f92 14 = some ops) :
    AWP Try.prog Try.f92.ntmps none (.region 14 ops true) (cutQ (fun s h => ∃ a c a' c', s = [(3, intA n), (4, .v (ptrV g4)), (5, .v (ptrV g5)), (6, .v (ptrV g6)), (9, .v (ptrV gw)), (24, u24), (25, u25), (26, intA i)] ∧ h = [.cl g5 224 [.v (selV hi)], .cl gw 219 [intA b.stocks, .t (daysT true b.days), .t (loansT false b.loans), .v (.slice a (i + 1) c), .v (.slice a' (i + 1) c'), .v (.map (some gm))], .rw (.slice a (i + 1) c) 220 4 (rows ++ [arrRow p]), .rw (.slice a' (i + 1) c') 3 1 (rows' ++ [[intA (sel hi d.rate)]]), e4, e6, em]))
      [(3, intA n), (4, .v (ptrV g4)), (5, .v (ptrV g5)), (6, .v (ptrV g6)), (9, .v (ptrV gw)), (11, .v (ptrV g11)), (13, .v (ptrV g13)), (24, u24), (25, u25), (26, intA i)] [.cl g11 130 [.t (rngsT false d.prices), intA d.rate.lo, intA d.rate.hi], .cl g13 220 (arrRow p), .cl g5 224 [.v (selV hi)], .cl gw 219 [intA b.stocks, .t (daysT true b.days), .t (loansT false b.loans), .v (.slice a i c), .v (.slice a' i c'), .v (.map (some gm))], .rw (.slice a i c) 220 4 rows, .rw (.slice a' i c') 3 1 rows', e4, e6, em] := by
  cases h
  unfold arrRow
  refine awp_treeN T0 [(0, 0), (1, 0), (2, 0), (3, 0), (4, 0), (5, 1), (6, 1), (9, 0), (10, 0), (11, 0), (12, 1), (13, 0), (14, 1), (15, 0), (16, 1), (7, 2), (8, 2), (17, 2), (18, 2), (19, 3), (20, 0), (21, 0), (22, 3), (23, 0), (24, 0), (25, 3)] (.op 0 0 (.op 1 0 (.op 2 0 (.op 3 0 (.op 4 0 (.op 5 1 (.op 6 1 (.op 9 0 (.op 10 0 (.op 11 0 (.op 12 1 (.op 13 0 (.op 14 1 (.op 15 0 (.op 16 1 (.op 7 2 (.op 8 2 (.op 17 2 (.op 18 2 (.op 19 3 (.op 20 0 (.op 21 0 (.op 22 3 (.op 23 0 (.op 24 0 (.op 25 3 .stop)))))))))))))))))))))))))) [.cl g11 _ _, .cl g13 _ _, .cl g5 _ _, .cl gw _ _] rfl (by kernel_rfl) rcA ?_
  refine awt_po rfl (wt_none rfl) (pv_move rfl rfl) rfl rfl ?_
  refine awt_po rfl (wt_none rfl) (pv_move rfl rfl) rfl rfl ?_
  refine awt_po rfl (wt_none rfl) (pv_move rfl rfl) rfl rfl ?_
  refine awt_po rfl (wt_none rfl) (pv_nilCheck rfl rfl) rfl rfl ?_
  refine awt_po rfl (wt_none rfl) (pv_fa T0 rfl rfl rfl (by simp; rfl)) rfl rfl ?_
  refine awt_lo rfl (wt_none rfl) (lv_cl1 T0 rfl rfl rfl rcA raA) rfl rfl rfl ?_
  refine awt_lo rfl (wt_none rfl) (lv_cla T0 rfl rfl rfl rcA rfl) rfl rfl rfl ?_
  refine awt_po rfl (wt_none rfl) (pv_move rfl rfl) rfl rfl ?_
  refine awt_po rfl (wt_none rfl) (pv_nilCheck rfl rfl) rfl rfl ?_
  refine awt_po rfl (wt_none rfl) (pv_fa T0 rfl rfl rfl (by simp; rfl)) rfl rfl ?_
  refine awt_lo rfl (wt_none rfl) (lv_cl1 T0 rfl rfl rfl rcA raA) rfl rfl rfl ?_
  refine awt_po rfl (wt_none rfl) (pv_fa T0 rfl rfl rfl (by simp; rfl)) rfl rfl ?_
  refine awt_lo rfl (wt_none rfl) (lv_cl1 T0 rfl rfl rfl rcA raA) rfl rfl rfl ?_
  refine awt_po rfl (wt_none rfl) (pv_fa T0 rfl rfl rfl (by simp; rfl)) rfl rfl ?_
  refine awt_lo rfl (wt_none rfl) (lv_clp T0 rfl rfl rfl rcA rfl rfl) rfl rfl rfl ?_
  refine awt_h (hm := []) rfl (wt_none rfl) rcA rfl (st_bsl T0 rfl rfl rfl rfl rfl rcA rfl rfl rfl rfl (by simp only [List.map_cons, List.map_nil, cellsA]; rfl) ?_)
  intro g58
  refine awt_h (hm := _) rfl (wt_none rfl) ?sub rfl (st_app_o T0 rfl rfl rfl rfl rfl rfl rfl rfl rfl rcA rcA rfl rfl h1 (by omega) ?_)
  case sub => exact rcA
  intro a59 c59 p59
  refine awt_h (hm := []) rfl (wt_none rfl) rcA rfl (st_call T0 (sel_p hi d.rate) rfl rfl rfl rfl (by first | exact callee_lit | exact callee_v | exact callee_fn | assumption) rcA raA rfl ?_)
  rintro _ rfl
  refine awt_h (hm := []) rfl (wt_none rfl) rcA rfl (st_bsl T0 rfl rfl rfl rfl rfl rcA rfl rfl rfl rfl (by simp only [List.map_cons, List.map_nil, cellsA]; rfl) ?_)
  intro g69
  refine awt_s (md := fun _ => True) rfl (wt_none rfl) (st_app T0 rfl rfl rfl rfl rfl rfl rfl rfl rfl rcA rcA rfl rfl h2 (by omega) (fun _ _ => trivial) ?_)
  intro a70 c70 p70
  refine awe_p rfl (wt_none rfl) (pv_nilCheck rfl rfl) rfl rfl ?_
  first
    | refine awe_p rfl (wt_none rfl) (pv_fa T0 rfl rfl rfl (by simp; rfl)) rfl rfl ?_
    | refine awe_p rfl (wt_none rfl) (pv_fa_elt T0 rfl rfl rfl (by simp; rfl)) rfl rfl ?_
    | refine awe_p rfl (wt_none rfl) (pv_fa_rp T0 rfl rfl rfl (by simp; rfl)) rfl rfl ?_
  refine awe_s (md := fun _ => True) rfl (wt_none rfl) (st_store T0 rfl rfl rfl rfl rfl (by first | assumption | (simp only [cellsA]; rfl)) rfl rfl rfl rcA rcA trivial ?_)
  refine awe_p rfl (wt_none rfl) (pv_nilCheck rfl rfl) rfl rfl ?_
  first
    | refine awe_p rfl (wt_none rfl) (pv_fa T0 rfl rfl rfl (by simp; rfl)) rfl rfl ?_
    | refine awe_p rfl (wt_none rfl) (pv_fa_elt T0 rfl rfl rfl (by simp; rfl)) rfl rfl ?_
    | refine awe_p rfl (wt_none rfl) (pv_fa_rp T0 rfl rfl rfl (by simp; rfl)) rfl rfl ?_
  refine awe_s (md := fun _ => True) rfl (wt_none rfl) (st_store T0 rfl rfl rfl rfl rfl (by first | assumption | (simp only [cellsA]; rfl)) rfl rfl rfl rcA rcA trivial ?_)
  refine awe_end ?_
  exact cut_n ⟨_, _, _, _, rfl, rfl⟩ ssA rcA
end
theorem ends_o (b : BankD) (hv : Valid b) (hi last : Bool) (n : Nat) (hn : n < b.days.length) : ACall Try.prog 92 [bankA true b, .ag [.v (selV hi)], .ag [.v (selV last)], intA n] [] (fun r h' => ∃ g gm, r = .v (.pointer (some ⟨g, 0, none⟩)) ∧ h' = workH g gm true b (endPs b hi last n) (endRs b hi n) []) := by
  have hd4 := hv.days
  have hst := hv.st
  have hf : T0.fns.any (selF hi).beq = true := by cases hi <;> rfl
  refine acall_of_awp T0 Try.func92 rfl rfl rfl ?_
  repeat (first | refine awp_seq ?_ | refine awp_region_lit rfl ?_)
  refine awl_hw wtA (st_box rfl rfl raA (by first | assumption | (simp only [cellsA]; rfl)) rfl rfl ?_)
  intro g4
  skip
  refine awl_hw wtA (st_box rfl rfl raA (by first | assumption | (simp only [cellsA]; rfl)) rfl rfl ?_)
  intro g5
  skip
  refine awl_hw wtA (st_box rfl rfl raA (by first | assumption | (simp only [cellsA]; rfl)) rfl rfl ?_)
  intro g6
  repeat (first | refine awp_seq ?_ | refine awp_region_lit rfl ?_ | ((first | (show AWL _ _ _ (⟨_, .assign _, _, _, _, _⟩ :: _) _ _ _; refine awl_pw ?wtq (pv_assign rfl rfl) rfl rfl ?_) | (show AWL _ _ _ (⟨_, .load _ _, _, _, _, _⟩ :: _) _ _ _; refine awl_lw ?wtq (lv_cla T0 rfl rfl rfl rcA rfl) rfl rfl rfl ?_)); case wtq => exact wtA) | refine awl_nil ?_)
  refine awl_hw wtA (aop_makeMap 2 rfl rfl rfl ?_)
  intro gm
  repeat (first | ((first | (show AWL _ _ _ (⟨_, .build _ _, _, _, _, _⟩ :: _) _ _ _; refine awl_pw ?wtq (pv_build T0 rfl rfl rfl scA (by first | ((repeat' (first | exact BParts.nil | apply BParts.cons | rfl)); all_goals fail) | fail) (by first | ((repeat' (first | exact FillA.nil | exact Sp.done | apply FillA.cons | apply Sp.put | apply Sp.skip | (simp only [cellsA]; rfl) | rfl)); all_goals fail) | fail)) rfl rfl ?_)); case wtq => exact wtA))
  refine awl_hw wtA (st_box rfl rfl raA (by first | assumption | (simp only [cellsA]; rfl)) rfl rfl ?_)
  intro gw
  repeat (first | refine awp_seq ?_ | refine awp_block ?_ | refine awp_region_lit rfl ?_ | ((first | (show AWL _ _ _ (⟨_, .move _, _, _, _, _⟩ :: _) _ _ _; refine awl_pw ?wtq (pv_move rfl rfl) rfl rfl ?_) | (show AWL _ _ _ (⟨_, .assign _, _, _, _, _⟩ :: _) _ _ _; refine awl_pw ?wtq (pv_assign rfl rfl) rfl rfl ?_) | (show AWL _ _ _ (⟨_, .load _ _, _, _, _, _⟩ :: _) _ _ _; refine awl_lw ?wtq (lv_cl1 T0 rfl rfl rfl rcA raA) rfl rfl rfl ?_) | (show AWL _ _ _ (⟨_, .fieldAddr _ _ _, _, _, _, _⟩ :: _) _ _ _; refine awl_pw ?wtq (pv_fa T0 rfl rfl rfl (by simp; rfl)) rfl rfl ?_) | (show AWL _ _ _ (⟨_, .slice _ _ _ _ _, _, _, _, _⟩ :: _) _ _ _; refine awl_pw ?wtq (pv_slice_hi T0 rfl rfl rfl rfl (by omega) ixA) rfl rfl ?_) | (show AWL _ _ _ (⟨_, .binOp .add _ _ _ _, _, _, _, _⟩ :: _) _ _ _; refine awl_pw ?wtq (pv_add rfl rfl rfl (by first | assumption | exact wr64 (by omega))) rfl rfl ?_) | (show AWL _ _ _ (⟨_, .call ⟨.builtin .len, _, _⟩, _, _, _, _⟩ :: _) _ _ _; refine awl_pw ?wtq (pv_len_t T0 rfl rfl rfl) rfl rfl ?_)); case wtq => exact wtA) | refine awl_nil ?_)
  refine awp_ghost (ghost_nilrow 220 4) ?_
  refine awp_ghost (ghost_nilrow 3 1) ?_
  refine awp_loop (fun m s h => ∃ (i : Nat) (a a' : Option Addr) (c c' : Nat) (r1 r2 : List (List AV)), i ≤ n + 1 ∧ m = n + 1 - i ∧ r1.length = i ∧ r2.length = i ∧ r1 = (List.range i).map (fun k => arrRow (endRow b hi last n k)) ∧ r2 = (List.range i).map (fun k => intRow (sel hi (b.days.getD k default).rate)) ∧
    s = [(3, intA n), (4, .v (ptrV g4)), (5, .v (ptrV g5)), (6, .v (ptrV g6)), (9, .v (ptrV gw)), (24, .t (.sl true 3 (n + 1) (fun k => dayL (b.days.getD k default)))), (25, intA ((n + 1 : Nat) : Int)), (26, intA i)] ∧
    h = [.cl g5 224 [.v (selV hi)], .cl gw 219 [intA b.stocks, .t (daysT true b.days), .t (loansT false b.loans), .v (.slice a i c), .v (.slice a' i c'), .v (.map (some gm))], .rw (.slice a i c) 220 4 r1, .rw (.slice a' i c') 3 1 r2, .cl g4 69 [intA b.stocks, .t (daysT true b.days), .t (loansT false b.loans)], .cl g6 224 [.v (selV last)], mapE gm 2 []]) ?_ ⟨0, none, none, 0, 0, [], [], by omega, rfl, rfl, rfl, rfl, rfl, rfl, rfl⟩ ssA rcA
  rintro m s h ⟨i, a, a', c, c', r1, r2, hi1, rfl, hl1, hl2, hr1, hr2, rfl, rfl⟩
  by_cases hlt : i < n + 1
  · have hpl := hv.plen i (by omega)
    have d1 : decide ((i : Int) < ((n + 1 : Nat) : Int)) = true := decide_eq_true (by omega)
    obtain ⟨y, hy⟩ : ∃ y, y = if i = n then last else hi := ⟨_, rfl⟩
    have hfy : T0.fns.any (selF y).beq = true := by cases y <;> rfl
    repeat (first | refine awp_seq ?_ | refine awp_block ?_ | refine awp_region_lit rfl ?_ | refine awp_skip ?_ | refine awp_cond_t rfl (by first | rfl | assumption | exact dT (by omega)) ?_ | ((first | (show AWL _ _ _ (⟨_, .move _, _, _, _, _⟩ :: _) _ _ _; refine awl_pw ?wtq (pv_move rfl rfl) rfl rfl ?_) | (show AWL _ _ _ (⟨_, .load _ _, _, _, _, _⟩ :: _) _ _ _; refine awl_lw ?wtq (lv_elt_ag T0 rfl rfl rfl rfl rcA) rfl rfl rfl ?_) | (show AWL _ _ _ (⟨_, .indexAddr _ _ _, _, _, _, _⟩ :: _) _ _ _; refine awl_pw ?wtq (pv_ix_t T0 rfl rfl rfl rfl (by omega) ixA) rfl rfl ?_) | (show AWL _ _ _ (⟨_, .binOp .lss _ _ _ _, _, _, _, _⟩ :: _) _ _ _; refine awl_pw ?wtq (pv_lss rfl rfl rfl) rfl rfl ?_)); case wtq => exact wtA) | refine awl_nil ?_)
    refine awl_hw wtA (st_alloc T0 rfl rfl rfl rfl scA ?_)
    intro g11
    repeat (first | refine awp_seq ?_ | refine awp_region_lit rfl ?_ | ((first | (show AWL _ _ _ (⟨_, .assign _, _, _, _, _⟩ :: _) _ _ _; refine awl_pw ?wtq (pv_assign rfl rfl) rfl rfl ?_) | (show AWL _ _ _ (⟨_, .load _ _, _, _, _, _⟩ :: _) _ _ _; refine awl_lw ?wtq (lv_cla T0 rfl rfl rfl rcA rfl) rfl rfl rfl ?_)); case wtq => exact wtA) | (show AWL _ _ _ (⟨_, .store _ _ _, _, _, _, _⟩ :: _) _ _ _; refine awl_hw wtA (st_store T0 rfl rfl rfl rfl rfl (by first | assumption | (simp only [cellsA]; rfl)) rfl rfl rfl rcA rcA trivial ?_)) | refine awl_nil ?_)
    refine awl_hw wtA (st_alloc T0 rfl rfl rfl rfl scA ?_)
    intro g12
    repeat (first | refine awp_seq ?_ | refine awp_region_lit rfl ?_ | with_reducible refine then_n ?_ | ((first | (show AWL _ _ _ (⟨_, .move _, _, _, _, _⟩ :: _) _ _ _; refine awl_pw ?wtq (pv_move rfl rfl) rfl rfl ?_) | (show AWL _ _ _ (⟨_, .binOp .eql _ _ _ _, _, _, _, _⟩ :: _) _ _ _; refine awl_pw ?wtq (pv_eql rfl rfl rfl) rfl rfl ?_)); case wtq => exact wtA) | (show AWL _ _ _ (⟨_, .store _ _ _, _, _, _, _⟩ :: _) _ _ _; refine awl_hw wtA (st_store T0 rfl rfl rfl rfl rfl (by first | assumption | (simp only [cellsA]; rfl)) rfl rfl rfl rcA rcA trivial ?_)) | refine awl_nil ?_)
    refine awp_cut (fun s h => s = [(3, intA n), (4, .v (ptrV g4)), (5, .v (ptrV g5)), (6, .v (ptrV g6)), (9, .v (ptrV gw)), (11, .v (ptrV g11)), (12, .v (ptrV g12)), (24, .t (.sl true 3 (n + 1) (fun k => dayL (b.days.getD k default)))), (25, intA ((n + 1 : Nat) : Int)), (26, intA i)] ∧
      h = [.cl g12 224 [.v (selV y)], .cl g11 130 [.t (rngsT false (b.days.getD i default).prices), intA (b.days.getD i default).rate.lo, intA (b.days.getD i default).rate.hi], .cl g5 224 [.v (selV hi)], .cl gw 219 [intA b.stocks, .t (daysT true b.days), .t (loansT false b.loans), .v (.slice a i c), .v (.slice a' i c'), .v (.map (some gm))], .rw (.slice a i c) 220 4 r1, .rw (.slice a' i c') 3 1 r2, .cl g4 69 [intA b.stocks, .t (daysT true b.days), .t (loansT false b.loans)], .cl g6 224 [.v (selV last)], mapE gm 2 []]) ?_ ?_
    · by_cases hin : i = n
      · have d2 : decide ((i : Int) = n) = true := decide_eq_true (by omega)
        rw [if_pos hin] at hy
        subst hy
        repeat (first | refine awp_region_lit rfl ?_ | refine awp_cond_t rfl (by first | rfl | assumption | exact dT (by omega)) ?_ | ((first | (show AWL _ _ _ (⟨_, .load _ _, _, _, _, _⟩ :: _) _ _ _; refine awl_lw ?wtq (lv_cla T0 rfl rfl rfl rcA rfl) rfl rfl rfl ?_)); case wtq => exact wtA) | (show AWL _ _ _ (⟨_, .store _ _ _, _, _, _, _⟩ :: _) _ _ _; refine awl_hw wtA (st_store T0 rfl rfl rfl rfl rfl (by first | assumption | (simp only [cellsA]; rfl)) rfl rfl rfl rcA rcA trivial ?_)) | refine awl_nil ?_)
        exact cut_n ⟨rfl, rfl⟩ ssA rcA
      · have d2 : decide ((i : Int) = n) = false := decide_eq_false (by omega)
        rw [if_neg hin] at hy
        subst hy
        repeat (first | refine awp_skip ?_ | refine awp_cond_f rfl (by first | rfl | assumption | exact dF (by omega)) ?_)
        exact cut_n ⟨rfl, rfl⟩ ssA rcA
    rintro s h ⟨rfl, rfl⟩
    repeat (first | refine awp_seq ?_ | refine awp_region_lit rfl ?_)
    refine awl_hw wtA (st_alloc T0 rfl rfl rfl rfl scA ?_)
    intro g13
    repeat (first | refine awp_seq ?_ | refine awp_block ?_ | refine awp_region_lit rfl ?_ | ((first | (show AWL _ _ _ (⟨_, .move _, _, _, _, _⟩ :: _) _ _ _; refine awl_pw ?wtq (pv_move rfl rfl) rfl rfl ?_) | (show AWL _ _ _ (⟨_, .load _ _, _, _, _, _⟩ :: _) _ _ _; refine awl_lw ?wtq (lv_cl1 T0 rfl rfl rfl rcA raA) rfl rfl rfl ?_) | (show AWL _ _ _ (⟨_, .fieldAddr _ _ _, _, _, _, _⟩ :: _) _ _ _; refine awl_pw ?wtq (pv_fa T0 rfl rfl rfl (by simp; rfl)) rfl rfl ?_) | (show AWL _ _ _ (⟨_, .call ⟨.builtin .len, _, _⟩, _, _, _, _⟩ :: _) _ _ _; refine awl_pw ?wtq (pv_len_t T0 rfl rfl rfl) rfl rfl ?_)); case wtq => exact wtA) | refine awl_nil ?_)
    have hAr : [intA 0, intA 0, intA 0, intA 0] = arrI (selArr (b.days.getD i default).prices y 0) 4 := rfl
    refine awp_loop (fun m s h => ∃ (j : Nat), j ≤ (b.days.getD i default).prices.length ∧ m = (b.days.getD i default).prices.length - j ∧ s = [(3, intA n), (4, .v (ptrV g4)), (5, .v (ptrV g5)), (6, .v (ptrV g6)), (9, .v (ptrV gw)), (11, .v (ptrV g11)), (12, .v (ptrV g12)), (13, .v (ptrV g13)), (24, .t (.sl true 3 (n + 1) (fun k => dayL (b.days.getD k default)))), (25, intA ((n + 1 : Nat) : Int)), (26, intA i), (37, .t (rngsT false (b.days.getD i default).prices)), (38, intA (b.days.getD i default).prices.length), (39, intA j)] ∧
      h = [.cl g13 220 (arrI (selArr (b.days.getD i default).prices y j) 4), .cl g12 224 [.v (selV y)], .cl g11 130 [.t (rngsT false (b.days.getD i default).prices), intA (b.days.getD i default).rate.lo, intA (b.days.getD i default).rate.hi], .cl g5 224 [.v (selV hi)], .cl gw 219 [intA b.stocks, .t (daysT true b.days), .t (loansT false b.loans), .v (.slice a i c), .v (.slice a' i c'), .v (.map (some gm))], .rw (.slice a i c) 220 4 r1, .rw (.slice a' i c') 3 1 r2, .cl g4 69 [intA b.stocks, .t (daysT true b.days), .t (loansT false b.loans)], .cl g6 224 [.v (selV last)], mapE gm 2 []]) ?_ ⟨0, Nat.zero_le _, rfl, rfl, rfl⟩ ssA rcA
    rintro m s h ⟨j, hj, rfl, rfl, rfl⟩
    by_cases hjt : j < (b.days.getD i default).prices.length
    · have hj4 : j < 4 := by omega
      repeat (first | refine awp_seq ?_ | refine awp_block ?_ | refine awp_region_lit rfl ?_ | refine awp_skip ?_ | refine awp_cond_t rfl (by first | rfl | assumption | exact dT (by omega)) ?_ | ((first | (show AWL _ _ _ (⟨_, .move _, _, _, _, _⟩ :: _) _ _ _; refine awl_pw ?wtq (pv_move rfl rfl) rfl rfl ?_) | (show AWL _ _ _ (⟨_, .load _ _, _, _, _, _⟩ :: _) _ _ _; refine awl_lw ?wtq (lv_elt_ag T0 rfl rfl rfl rfl rcA) rfl rfl rfl ?_) | (show AWL _ _ _ (⟨_, .indexAddr _ _ _, _, _, _, _⟩ :: _) _ _ _; refine awl_pw ?wtq (pv_ix_t T0 rfl rfl rfl rfl (by omega) ixA) rfl rfl ?_) | (show AWL _ _ _ (⟨_, .binOp .lss _ _ _ _, _, _, _, _⟩ :: _) _ _ _; refine awl_pw ?wtq (pv_lss rfl rfl rfl) rfl rfl ?_)); case wtq => exact wtA) | refine awl_nil ?_)
      refine awl_hw wtA (st_alloc T0 rfl rfl rfl rfl scA ?_)
      intro g15
      repeat (first | refine awp_region_lit rfl ?_ | ((first | (show AWL _ _ _ (⟨_, .move _, _, _, _, _⟩ :: _) _ _ _; refine awl_pw ?wtq (pv_move rfl rfl) rfl rfl ?_) | (show AWL _ _ _ (⟨_, .assign _, _, _, _, _⟩ :: _) _ _ _; refine awl_pw ?wtq (pv_assign rfl rfl) rfl rfl ?_) | (show AWL _ _ _ (⟨_, .load _ _, _, _, _, _⟩ :: _) _ _ _; refine awl_lw ?wtq (lv_cl1 T0 rfl rfl rfl rcA raA) rfl rfl rfl ?_) | (show AWL _ _ _ (⟨_, .load _ _, _, _, _, _⟩ :: _) _ _ _; refine awl_lw ?wtq (lv_cla T0 rfl rfl rfl rcA rfl) rfl rfl rfl ?_) | (show AWL _ _ _ (⟨_, .fieldAddr _ _ _, _, _, _, _⟩ :: _) _ _ _; refine awl_pw ?wtq (pv_fa T0 rfl rfl rfl (by simp; rfl)) rfl rfl ?_)); case wtq => exact wtA) | (show AWL _ _ _ (⟨_, .store _ _ _, _, _, _, _⟩ :: _) _ _ _; refine awl_hw wtA (st_store T0 rfl rfl rfl rfl rfl (by first | assumption | (simp only [cellsA]; rfl)) rfl rfl rfl rcA rcA trivial ?_)) | refine awl_nil ?_)
      refine awl_hw wtA (st_call T0 (sel_p y ((b.days.getD i default).prices.getD j default)) rfl rfl rfl rfl (by first | exact callee_lit | exact callee_v | exact callee_fn | assumption) rcA raA rfl ?_)
      rintro _ rfl
      repeat (first | ((first | (show AWL _ _ _ (⟨_, .indexAddr _ _ _, _, _, _, _⟩ :: _) _ _ _; refine awl_pw ?wtq (pv_ix_arr T0 rfl rfl rfl rfl (by omega) (by simp; rfl)) rfl rfl ?_)); case wtq => exact wtA))
      refine awl_hw (wt_none rfl) (st_arrI T0 rfl rfl rfl rfl rfl rcA hj4 (fun q _ => selArr_step (b.days.getD i default).prices y j q) trivial ?_)
      repeat (first | refine awp_region_lit rfl ?_ | ((first | (show AWL _ _ _ (⟨_, .move _, _, _, _, _⟩ :: _) _ _ _; refine awl_pw ?wtq (pv_move rfl rfl) rfl rfl ?_) | (show AWL _ _ _ (⟨_, .binOp .add _ _ _ _, _, _, _, _⟩ :: _) _ _ _; refine awl_pw ?wtq (pv_add rfl rfl rfl (by first | assumption | exact wr64 (by omega))) rfl rfl ?_)); case wtq => exact wtA) | refine awl_nil ?_)
      refine rnd_n _ _ _ ?_ ⟨j + 1, hjt, rfl, rfl, rfl⟩ ssA rcA
      omega
    obtain rfl : j = (b.days.getD i default).prices.length := by omega
    rw [selArr_end y (by omega)]
    repeat (first | refine awp_seq ?_ | refine awp_region_lit rfl ?_ | refine awp_exit ?_ | with_reducible refine then_n ?_ | with_reducible refine then_x ?_ | with_reducible refine blk_x ?_ | refine rnd_x ?_ | refine awp_cond_f rfl (by first | rfl | assumption | exact dF (by omega)) ?_ | ((first | (show AWL _ _ _ (⟨_, .binOp .lss _ _ _ _, _, _, _, _⟩ :: _) _ _ _; refine awl_pw ?wtq (pv_lss rfl rfl rfl) rfl rfl ?_)); case wtq => exact wtA) | refine awl_nil ?_)
    refine awp_cutB _ (awp_weak ssA rcA (mv_14 (g4 := g4) (g5 := g5) (g6 := g6) (gw := gw) (gm := gm) (g11 := g11) (g13 := g13) (i := i) (n := n) (c := c) (c' := c') (b := b) (hi := hi) (d := b.days.getD i default) (p := (b.days.getD i default).prices.map (sel y)) (a := a) (a' := a') (rows := r1) (rows' := r2) (e4 := .cl g4 69 [intA b.stocks, .t (daysT true b.days), .t (loansT false b.loans)]) (e6 := .cl g6 224 [.v (selV last)]) (em := mapE gm 2 []) (u24 := .t (.sl true 3 (n + 1) (fun k => dayL (b.days.getD k default)))) (u25 := intA ((n + 1 : Nat) : Int)) hl1 hl2 (by omega) hf rfl)) ?_
    rintro s h ⟨a2, c2, a3, c3, rfl, rfl⟩
    repeat (first | refine awp_region_lit rfl ?_ | ((first | (show AWL _ _ _ (⟨_, .move _, _, _, _, _⟩ :: _) _ _ _; refine awl_pw ?wtq (pv_move rfl rfl) rfl rfl ?_) | (show AWL _ _ _ (⟨_, .binOp .add _ _ _ _, _, _, _, _⟩ :: _) _ _ _; refine awl_pw ?wtq (pv_add rfl rfl rfl (by first | assumption | exact wr64 (by omega))) rfl rfl ?_)); case wtq => exact wtA) | refine awl_nil ?_)
    refine rnd_n _ _ _ ?_ ⟨i + 1, a2, a3, c2, c3, _, _, by omega, rfl, ?_, ?_, ?_, ?_, rfl, rfl⟩ ssA rcA
    · omega
    · rw [List.length_append, hl1]; rfl
    · rw [List.length_append, hl2]; rfl
    · rw [hr1, range_step, hy]; rfl
    · rw [hr2, range_step]; rfl
  obtain rfl : i = n + 1 := by omega
  have d1 : decide (((n + 1 : Nat) : Int) < ((n + 1 : Nat) : Int)) = false := decide_eq_false (by omega)
  have t1 : ∀ k, k < n + 1 → r1.getD k [] = (arrL ((endPs b hi last n).getD k [])).map AV.ofTr := fun k hk => by
    rw [endPs_get _ _ _ _ _ (by omega), hr1]
    simp [List.getD_eq_getElem?_getD, hk]
    rfl
  have t2 : ∀ k, k < n + 1 → r2.getD k [] = ([.sc (.int .i64 ((endRs b hi n).getD k 0))] : List Tr).map AV.ofTr := fun k hk => by
    rw [endRs_get _ _ _ _ (by omega), hr2]
    simp [List.getD_eq_getElem?_getD, hk]
    rfl
  refine awp_ghost (ghost_freeze_cell (g := gw) (j := 3) (v := .slice a (n + 1) c) (E := 220) (sz := 4) (n := n + 1) (rows := r1) (fun q => arrL ((endPs b hi last n).getD q [])) rcA rcA rfl rfl hl1 t1) ?_
  refine awp_ghost (ghost_freeze_cell (g := gw) (j := 4) (v := .slice a' (n + 1) c') (E := 3) (sz := 1) (n := n + 1) (rows := r2) (fun q => [.sc (.int .i64 ((endRs b hi n).getD q 0))]) rcA rcA rfl rfl hl2 t2) ?_
  have q1 : (endPs b hi last n).length = n + 1 := by simp [endPs]
  have q2 : (endRs b hi n).length = n + 1 := by simp [endRs]
  have e1 : arrsT (endPs b hi last n) = .sl true 4 (n + 1) (fun q => arrL ((endPs b hi last n).getD q [])) := by unfold arrsT; rw [q1]
  have e2 : intsT true (endRs b hi n) = .sl true 1 (n + 1) (fun q => [.sc (.int .i64 ((endRs b hi n).getD q 0))]) := by unfold intsT; rw [q2]
  simp only [List.set_cons_succ, List.set_cons_zero]
  rw [← e1, ← e2]
  refine awp_ghost (ghost_cl_le (g := gw) (cs' := [intA b.stocks, .t (daysT true b.days), .t (loansT false b.loans), .t (arrsT (endPs b hi last n)), .t (intsT false (endRs b hi n)), .v (.map (some gm))]) rcA (.cons (.refl _) (.cons (.refl _) (.cons (.refl _) (.cons (.refl _) (.cons (.t (ints_le _)) (.cons (.refl _) .nil))))))) ?_
  repeat (first | refine awp_seq ?_ | refine awp_region_lit rfl ?_ | refine awp_exit ?_ | refine awp_ret ?_ | refine awp_cond_f rfl (by first | rfl | assumption | exact dF (by omega)) ?_ | ((first | (show AWL _ _ _ (⟨_, .move _, _, _, _, _⟩ :: _) _ _ _; refine awl_pw ?wtq (pv_move rfl rfl) rfl rfl ?_) | (show AWL _ _ _ (⟨_, .assign _, _, _, _, _⟩ :: _) _ _ _; refine awl_pw ?wtq (pv_assign rfl rfl) rfl rfl ?_) | (show AWL _ _ _ (⟨_, .binOp .lss _ _ _ _, _, _, _, _⟩ :: _) _ _ _; refine awl_pw ?wtq (pv_lss rfl rfl rfl) rfl rfl ?_)); case wtq => exact wtA) | refine awl_nil ?_)
  exact body_r (h' := workH gw gm true b (endPs b hi last n) (endRs b hi n) []) (.cons rfl .nil) rcA ⟨gw, gm, rfl, rfl⟩
end Go.Proofs.Ytlpknbneilgjkaa.M
