/- The law TopSplit: walk of split (Try.func8). -/
import Derived.Test.YtlpknbneilgjkaaMX0
import Derived.Test.YtlpknbneilgjkaaMMg
import Derived.Test.YtlpknbneilgjkaaKC
import Derived.Test.YtlpknbneilgjkaaGTy
import Derived.Test.YtlpknbneilgjkaaGTs
namespace Go.Proofs.Ytlpknbneilgjkaa.M
open Go Go.RowKit Go.Tl
set_option linter.unusedVariables false
set_option linter.unusedSimpArgs false
set_option maxRecDepth 100000
set_option maxHeartbeats 4000000
attribute [local irreducible] AWP AWL AOp PV LV AWT AWE
/-- the example's bank and truth -/
def bE : BankD := ⟨1, [⟨[⟨5, 5⟩], ⟨0, 0⟩⟩], [⟨40, 0, [6]⟩]⟩
def tE : TruthD := ⟨[[5]], [0]⟩
theorem bE_short : Short bE := by
  refine ⟨fun k hk => ?_, fun k hk => ?_, by decide, by decide⟩
  all_goals (have : k = 0 := by simp [bE] at hk; omega); subst this; decide
theorem tE_rows : ∀ k, k < tE.prices.length → (tE.prices.getD k []).length ≤ 1000 := fun k hk => by
  have h : k = 0 := by simp [tE] at hk; omega
  subst h
  decide
theorem splRow1 (k : Nat) (hk : k < 1) : ([K.splRow ⟨1, 2, 1⟩] : List (List AV)).getD k [] = ((fun _ => K.splL ⟨1, 2, 1⟩) k : List Tr).map AV.ofTr := by
  obtain rfl : k = 0 := by omega
  rfl
theorem playE : playA bE tE = .tup [.t (rowsT false [[30]]), .t (rowsT false (callsP bE tE 1)), intA 0] := by
  unfold playA
  rw [if_neg (by decide), if_neg (by decide)]
  have e : debtsP bE tE bE.loans.length = [[30]] := by decide
  rw [e]; rfl
theorem split_p : PCall Try.prog 8 [] (fun r => r = boolA true) := by
  have hW := K.whole_p true true 3 ⟨1, 2, 1⟩ ⟨by decide, by decide, by decide, by decide⟩ 1 (by decide)
  have eW : K.uN ⟨1, 2, 1⟩ 1 = 1440 := by decide
  rw [eW] at hW
  generalize e1 : [((3 : Int) * 1440).tdiv 720] = l1 at hW
  generalize e2 : [((3 : Int) * 1440).tmod 720] = l2 at hW
  have d1 : decide ((l1.length : Int) = 1) = true := by rw [← e1]; rfl
  have d2 : decide (l1.getD 0 0 = 6) = true := by rw [← e1]; decide
  have d3 : decide ((l2.length : Int) = 1) = true := by rw [← e2]; rfl
  have d4 : decide (l2.getD 0 0 = 0) = true := by rw [← e2]; decide
  have n1 : l1.length = 1 := by rw [← e1]; rfl
  have n2 : l2.length = 1 := by rw [← e2]; rfl
  clear e1 e2 eW
  have hP := play_p true bE tE bE_short (by decide) (by decide) tE_rows
  rw [playE] at hP
  generalize e3 : ([[30]] : List (List Int)) = l3 at hP
  have d5 : decide ((l3.length : Int) = 1) = true := by rw [← e3]; rfl
  have d6 : decide (((l3.getD 0 []).length : Int) = 1) = true := by rw [← e3]; decide
  have d7 : decide ((l3.getD 0 []).getD 0 0 = 30) = true := by rw [← e3]; decide
  have n3 : l3.length = 1 := by rw [← e3]; rfl
  have n4 : (l3.getD (Int.toNat 0) []).length = 1 := by rw [← e3]; rfl
  clear e3
  have hP1 : PCall Try.prog 15 [bank1 bE, truth1 tE] _ := acall_args hP (.cons (bank1_le true bE) (.cons (truth1_le tE) .nil))
  refine acall_of_awp T0 Try.func8 rfl rfl rfl ?_
  repeat (first | refine awp_seq ?_ | refine awp_region_lit rfl ?_ | ((first | (show AWL _ _ _ (⟨_, .assign _, _, _, _, _⟩ :: _) _ _ _; refine awl_pw ?wtq (pv_assign rfl rfl) rfl rfl ?_)); case wtq => exact wtA) | refine awl_nil ?_)
  refine awl_hw wtA (st_bsl T0 rfl rfl rfl rfl rfl rcA rfl rfl rfl rfl (by simp only [List.map_cons, List.map_nil, cellsA]; rfl) ?_)
  intro g8
  refine awl_ghost (ghost_freeze (d := 8) (v := .slice (some ⟨g8, 0, none⟩) 1 1) (E := 3) (sz := 1) (n := 1) (rows := ([3] : List Int).map intRow) (fun q => [.sc (.int .i64 (([3] : List Int).getD q 0))]) rcA rfl rfl (intRows_tree [3])) ?_
  repeat (first | ((first | (show AWL _ _ _ (⟨_, .build _ _, _, _, _, _⟩ :: _) _ _ _; refine awl_pw ?wtq (pv_build T0 rfl rfl rfl scA (by first | ((repeat' (first | exact BParts.nil | apply BParts.cons | rfl)); all_goals fail) | fail) (by first | ((repeat' (first | exact FillA.nil | exact Sp.done | apply FillA.cons | apply Sp.put | apply Sp.skip | (simp only [cellsA]; rfl) | rfl)); all_goals fail) | fail)) rfl rfl ?_)); case wtq => exact wtA))
  refine awl_hw wtA (st_bsl T0 rfl rfl rfl rfl rfl rcA rfl rfl rfl rfl (by simp only [List.map_cons, List.map_nil, cellsA]; rfl) ?_)
  intro g10
  refine awl_ghost (ghost_freeze (d := 10) (v := .slice (some ⟨g10, 0, none⟩) 1 1) (E := 128) (sz := 3) (n := 1) (rows := [K.splRow ⟨1, 2, 1⟩]) (fun _ => K.splL ⟨1, 2, 1⟩) rcA rfl rfl splRow1) ?_
  repeat (first | ((first | (show AWL _ _ _ (⟨_, .build _ _, _, _, _, _⟩ :: _) _ _ _; refine awl_pw ?wtq (pv_build T0 rfl rfl rfl scA (by first | ((repeat' (first | exact BParts.nil | apply BParts.cons | rfl)); all_goals fail) | fail) (by first | ((repeat' (first | exact FillA.nil | exact Sp.done | apply FillA.cons | apply Sp.put | apply Sp.skip | (simp only [cellsA]; rfl) | rfl)); all_goals fail) | fail)) rfl rfl ?_)); case wtq => exact wtA))
  refine awl_hw wtA (st_call T0 (hW) rfl rfl rfl rfl (by first | exact callee_lit | exact callee_v | exact callee_fn | assumption) rcA raA rfl ?_)
  rintro _ rfl
  repeat (first | refine awp_seq ?_ | refine awp_region_lit rfl ?_ | ((first | (show AWL _ _ _ (⟨_, .move _, _, _, _, _⟩ :: _) _ _ _; refine awl_pw ?wtq (pv_move rfl rfl) rfl rfl ?_) | (show AWL _ _ _ (⟨_, .assign _, _, _, _, _⟩ :: _) _ _ _; refine awl_pw ?wtq (pv_assign rfl rfl) rfl rfl ?_) | (show AWL _ _ _ (⟨_, .build _ _, _, _, _, _⟩ :: _) _ _ _; refine awl_pw ?wtq (pv_build T0 rfl rfl rfl scA (by first | ((repeat' (first | exact BParts.nil | apply BParts.cons | rfl)); all_goals fail) | fail) (by first | ((repeat' (first | exact FillA.nil | exact Sp.done | apply FillA.cons | apply Sp.put | apply Sp.skip | (simp only [cellsA]; rfl) | rfl)); all_goals fail) | fail)) rfl rfl ?_) | (show AWL _ _ _ (⟨_, .extract _ _, _, _, _, _⟩ :: _) _ _ _; refine awl_pw ?wtq (pv_extract rfl rfl rfl) rfl rfl ?_)); case wtq => exact wtA) | refine awl_nil ?_)
  refine awl_hw wtA (st_bsl T0 rfl rfl rfl rfl rfl rcA rfl rfl rfl rfl (by simp only [List.map_cons, List.map_nil, cellsA]; rfl) ?_)
  intro g19
  refine awl_ghost (ghost_freeze (d := 19) (v := .slice (some ⟨g19, 0, none⟩) 1 1) (E := 77) (sz := 2) (n := 1) (rows := ([⟨5, 5⟩] : List Rng).map rngRow) (fun q => rngL (([⟨5, 5⟩] : List Rng).getD q default)) rcA rfl rfl (rows_tree [⟨5, 5⟩] rngRow rngL (fun _ => rfl))) ?_
  repeat (first | ((first | (show AWL _ _ _ (⟨_, .build _ _, _, _, _, _⟩ :: _) _ _ _; refine awl_pw ?wtq (pv_build T0 rfl rfl rfl scA (by first | ((repeat' (first | exact BParts.nil | apply BParts.cons | rfl)); all_goals fail) | fail) (by first | ((repeat' (first | exact FillA.nil | exact Sp.done | apply FillA.cons | apply Sp.put | apply Sp.skip | (simp only [cellsA]; rfl) | rfl)); all_goals fail) | fail)) rfl rfl ?_)); case wtq => exact wtA))
  refine awl_hw wtA (st_bsl T0 rfl rfl rfl rfl rfl rcA rfl rfl rfl rfl (by simp only [List.map_cons, List.map_nil, cellsA]; rfl) ?_)
  intro g21
  refine awl_ghost (ghost_freeze (d := 21) (v := .slice (some ⟨g21, 0, none⟩) 1 1) (E := 130) (sz := 3) (n := 1) (rows := bE.days.map dayRow) (fun q => dayL1 (bE.days.getD q default)) rcA rfl rfl (rows_tree bE.days dayRow dayL1 (fun _ => rfl))) ?_
  skip
  refine awl_hw wtA (st_bsl T0 rfl rfl rfl rfl rfl rcA rfl rfl rfl rfl (by simp only [List.map_cons, List.map_nil, cellsA]; rfl) ?_)
  intro g22
  refine awl_ghost (ghost_freeze (d := 22) (v := .slice (some ⟨g22, 0, none⟩) 1 1) (E := 3) (sz := 1) (n := 1) (rows := ([6] : List Int).map intRow) (fun q => [.sc (.int .i64 (([6] : List Int).getD q 0))]) rcA rfl rfl (intRows_tree [6])) ?_
  repeat (first | ((first | (show AWL _ _ _ (⟨_, .build _ _, _, _, _, _⟩ :: _) _ _ _; refine awl_pw ?wtq (pv_build T0 rfl rfl rfl scA (by first | ((repeat' (first | exact BParts.nil | apply BParts.cons | rfl)); all_goals fail) | fail) (by first | ((repeat' (first | exact FillA.nil | exact Sp.done | apply FillA.cons | apply Sp.put | apply Sp.skip | (simp only [cellsA]; rfl) | rfl)); all_goals fail) | fail)) rfl rfl ?_)); case wtq => exact wtA))
  refine awl_hw wtA (st_bsl T0 rfl rfl rfl rfl rfl rcA rfl rfl rfl rfl (by simp only [List.map_cons, List.map_nil, cellsA]; rfl) ?_)
  intro g24
  refine awl_ghost (ghost_freeze (d := 24) (v := .slice (some ⟨g24, 0, none⟩) 1 1) (E := 131) (sz := 3) (n := 1) (rows := bE.loans.map loanRow) (fun q => loanL1 (bE.loans.getD q default)) rcA rfl rfl (rows_tree bE.loans loanRow loanL1 (fun _ => rfl))) ?_
  repeat (first | ((first | (show AWL _ _ _ (⟨_, .build _ _, _, _, _, _⟩ :: _) _ _ _; refine awl_pw ?wtq (pv_build T0 rfl rfl rfl scA (by first | ((repeat' (first | exact BParts.nil | apply BParts.cons | rfl)); all_goals fail) | fail) (by first | ((repeat' (first | exact FillA.nil | exact Sp.done | apply FillA.cons | apply Sp.put | apply Sp.skip | (simp only [cellsA]; rfl) | rfl)); all_goals fail) | fail)) rfl rfl ?_)); case wtq => exact wtA))
  refine awl_hw wtA (st_bsl T0 rfl rfl rfl rfl rfl rcA rfl rfl rfl rfl (by simp only [List.map_cons, List.map_nil, cellsA]; rfl) ?_)
  intro g26
  refine awl_ghost (ghost_freeze (d := 26) (v := .slice (some ⟨g26, 0, none⟩) 1 1) (E := 3) (sz := 1) (n := 1) (rows := ([5] : List Int).map intRow) (fun q => [.sc (.int .i64 (([5] : List Int).getD q 0))]) rcA rfl rfl (intRows_tree [5])) ?_
  skip
  refine awl_hw wtA (st_bsl T0 rfl rfl rfl rfl rfl rcA rfl rfl rfl rfl (by simp only [List.map_cons, List.map_nil, cellsA]; rfl) ?_)
  intro g27
  refine awl_ghost (ghost_freeze (d := 27) (v := .slice (some ⟨g27, 0, none⟩) 1 1) (E := 29) (sz := 1) (n := 1) (rows := tE.prices.map lstRow) (fun q => [intsT true (tE.prices.getD q [])]) rcA rfl rfl (lstRows_tree tE.prices)) ?_
  skip
  refine awl_hw wtA (st_bsl T0 rfl rfl rfl rfl rfl rcA rfl rfl rfl rfl (by simp only [List.map_cons, List.map_nil, cellsA]; rfl) ?_)
  intro g28
  refine awl_ghost (ghost_freeze (d := 28) (v := .slice (some ⟨g28, 0, none⟩) 1 1) (E := 3) (sz := 1) (n := 1) (rows := ([0] : List Int).map intRow) (fun q => [.sc (.int .i64 (([0] : List Int).getD q 0))]) rcA rfl rfl (intRows_tree [0])) ?_
  repeat (first | ((first | (show AWL _ _ _ (⟨_, .build _ _, _, _, _, _⟩ :: _) _ _ _; refine awl_pw ?wtq (pv_build T0 rfl rfl rfl scA (by first | ((repeat' (first | exact BParts.nil | apply BParts.cons | rfl)); all_goals fail) | fail) (by first | ((repeat' (first | exact FillA.nil | exact Sp.done | apply FillA.cons | apply Sp.put | apply Sp.skip | (simp only [cellsA]; rfl) | rfl)); all_goals fail) | fail)) rfl rfl ?_)); case wtq => exact wtA))
  refine awl_hw wtA (st_call T0 (hP1) rfl rfl rfl rfl (by first | exact callee_lit | exact callee_v | exact callee_fn | assumption) rcA raA rfl ?_)
  rintro _ rfl
  repeat (first | refine awp_seq ?_ | refine awp_region_lit rfl ?_ | refine awp_ret ?_ | ((first | (show AWL _ _ _ (⟨_, .move _, _, _, _, _⟩ :: _) _ _ _; refine awl_pw ?wtq (pv_move rfl rfl) rfl rfl ?_) | (show AWL _ _ _ (⟨_, .assign _, _, _, _, _⟩ :: _) _ _ _; refine awl_pw ?wtq (pv_assign rfl rfl) rfl rfl ?_) | (show AWL _ _ _ (⟨_, .load _ _, _, _, _, _⟩ :: _) _ _ _; refine awl_lw ?wtq (lv_elt_sc T0 rfl rfl rfl rfl) rfl rfl rfl ?_) | (show AWL _ _ _ (⟨_, .load _ _, _, _, _, _⟩ :: _) _ _ _; refine awl_lw ?wtq (lv_elt_sl T0 rfl rfl rfl rfl) rfl rfl rfl ?_) | (show AWL _ _ _ (⟨_, .indexAddr _ _ _, _, _, _, _⟩ :: _) _ _ _; refine awl_pw ?wtq (pv_ix_t T0 rfl rfl rfl rfl (by omega) ixA) rfl rfl ?_) | (show AWL _ _ _ (⟨_, .binOp .eql _ _ _ _, _, _, _, _⟩ :: _) _ _ _; refine awl_pw ?wtq (pv_eql rfl rfl rfl) rfl rfl ?_) | (show AWL _ _ _ (⟨_, .call ⟨.builtin .len, _, _⟩, _, _, _, _⟩ :: _) _ _ _; refine awl_pw ?wtq (pv_len_t T0 rfl rfl rfl) rfl rfl ?_) | (show AWL _ _ _ (⟨_, .extract _ _, _, _, _, _⟩ :: _) _ _ _; refine awl_pw ?wtq (pv_extract rfl rfl rfl) rfl rfl ?_) | (show AWL _ _ _ (⟨_, .pick _ _ _, _, _, _, _⟩ :: _) _ _ _; refine awl_pw ?wtq (pv_pick_t rfl rfl tfA rfl) rfl rfl ?_)); case wtq => exact wtA) | refine awl_nil ?_)
  exact body_p (.cons rfl .nil) (congrArg boolA d7)
end Go.Proofs.Ytlpknbneilgjkaa.M
