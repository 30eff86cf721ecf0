/- Markets, plain; what is valid; the walk of CheckMarket. -/
import Derived.Test.YtlpknbneilgjkaaZnGTs
import Derived.Test.YtlpknbneilgjkaaTt
namespace Go.Proofs.Ytlpknbneilgjkaa.C
open Go Go.RowKit Go.Tl
set_option linter.unusedVariables false
set_option linter.unusedSimpArgs false
set_option maxRecDepth 100000
set_option maxHeartbeats 4000000
structure HouD where
  lo : Int
  hi : Int
  sells : Bool
  ask : Int
  deriving Inhabited, DecidableEq
structure ConD where
  sh : Int
  lg : Int
  n : Int
  deriving Inhabited, DecidableEq
structure MktD where
  ex : Int
  hou : List HouD
  con : List ConD
  deriving Inhabited
def houL (h : HouD) : List Tr := [.sc (.int .i64 h.lo), .sc (.int .i64 h.hi), .sc (.bool h.sells), .sc (.int .i64 h.ask)]
def housT (cp : Bool) (hs : List HouD) : Tr := .sl cp 4 hs.length (fun k => houL (hs.getD k default))
def conL (c : ConD) : List Tr := [.sc (.int .i64 c.sh), .sc (.int .i64 c.lg), .sc (.int .i64 c.n)]
def consT (cp : Bool) (cs : List ConD) : Tr := .sl cp 3 cs.length (fun k => conL (cs.getD k default))
abbrev mktA (cp cc : Bool) (m : MktD) : AV := .ag [intA m.ex, .t (housT cp m.hou), .t (consT cc m.con)]
abbrev houA (h : HouD) : AV := .ag [intA h.lo, intA h.hi, boolA h.sells, intA h.ask]
abbrev conA (c : ConD) : AV := .ag [intA c.sh, intA c.lg, intA c.n]
abbrev ptrV (g : Nat) : Value := .pointer (some ⟨g, 0, none⟩)
def houRow (h : HouD) : List AV := [intA h.lo, intA h.hi, boolA h.sells, intA h.ask]
def conRow (c : ConD) : List AV := [intA c.sh, intA c.lg, intA c.n]
def houB (h : HouD) : Bool := decide (0 ≤ h.lo) && (decide (h.lo ≤ h.hi) && (decide (h.hi ≤ 200) && inB h.ask 0 1000))
def conB (n : Nat) (c : ConD) : Bool := inB c.sh 0 ((n : Int) - 1) && (inB c.lg 0 ((n : Int) - 1) && (decide (c.sh ≠ c.lg) && inB c.n 1 200))
def faultN (m : MktD) : Int := if 6 < m.hou.length ∨ 8 < m.con.length then 3 else if (inB m.ex 1 200 = true ∧ m.hou.length ≠ 0) ∧ m.hou.all houB = true ∧ m.con.all (conB m.hou.length) = true then 0 else 1
attribute [local irreducible] AWP AWL AOp PV LV AWT AWE
theorem in_q {n lo hi : Int} {r : Bool} (h : inB n lo hi = r) : PCall Try.prog 71 [intA n, intA lo, intA hi] (fun x => x = boolA r) := by
  subst h
  refine acall_of_awp T0 Try.func71 rfl rfl rfl ?_
  by_cases h1 : lo ≤ n
  · have d1 := decide_eq_true h1
    repeat (first | refine awp_seq ?_ | refine awp_region_lit rfl ?_ | refine awp_ret ?_ | ((first | (show AWL _ _ _ (⟨_, .move _, _, _, _, _⟩ :: _) _ _ _; refine awl_pw ?wtq (pv_move rfl rfl) rfl rfl ?_) | (show AWL _ _ _ (⟨_, .assign _, _, _, _, _⟩ :: _) _ _ _; refine awl_pw ?wtq (pv_assign rfl rfl) rfl rfl ?_) | (show AWL _ _ _ (⟨_, .binOp .leq _ _ _ _, _, _, _, _⟩ :: _) _ _ _; refine awl_pw ?wtq (pv_leq rfl rfl rfl) rfl rfl ?_) | (show AWL _ _ _ (⟨_, .binOp .geq _ _ _ _, _, _, _, _⟩ :: _) _ _ _; refine awl_pw ?wtq (pv_geq rfl rfl rfl) rfl rfl ?_) | (show AWL _ _ _ (⟨_, .pick _ _ _, _, _, _, _⟩ :: _) _ _ _; refine awl_pw ?wtq (pv_pick_t rfl rfl tfA rfl) rfl rfl ?_)); case wtq => exact wtA) | refine awl_nil ?_)
    refine body_p (.cons rfl .nil) ?_
    simp [inB, h1, resA]
  · have d1 := decide_eq_false h1
    repeat (first | refine awp_seq ?_ | refine awp_region_lit rfl ?_ | refine awp_ret ?_ | ((first | (show AWL _ _ _ (⟨_, .move _, _, _, _, _⟩ :: _) _ _ _; refine awl_pw ?wtq (pv_move rfl rfl) rfl rfl ?_) | (show AWL _ _ _ (⟨_, .assign _, _, _, _, _⟩ :: _) _ _ _; refine awl_pw ?wtq (pv_assign rfl rfl) rfl rfl ?_) | (show AWL _ _ _ (⟨_, .binOp .geq _ _ _ _, _, _, _, _⟩ :: _) _ _ _; refine awl_pw ?wtq (pv_geq rfl rfl rfl) rfl rfl ?_) | (show AWL _ _ _ (⟨_, .pick _ _ _, _, _, _, _⟩ :: _) _ _ _; refine awl_pw ?wtq (pv_pick_f rfl rfl tfA rfl) rfl rfl ?_)); case wtq => exact wtA) | refine awl_sk (wf_some rfl rfl rfl rfl tfA) rfl rfl ?_ | refine awl_nil ?_)
    refine body_p (.cons rfl .nil) ?_
    simp [inB, h1, resA]
theorem within_q {n lo hi : Int} {r : Bool} (h : inB n lo hi = r) : PCall Try.prog 194 [intA n, intA lo, intA hi] (fun x => x = boolA r) := by
  subst h
  refine acall_of_awp T0 Try.func194 rfl rfl rfl ?_
  by_cases h1 : lo ≤ n
  · have d1 := decide_eq_true h1
    repeat (first | refine awp_seq ?_ | refine awp_region_lit rfl ?_ | refine awp_ret ?_ | ((first | (show AWL _ _ _ (⟨_, .move _, _, _, _, _⟩ :: _) _ _ _; refine awl_pw ?wtq (pv_move rfl rfl) rfl rfl ?_) | (show AWL _ _ _ (⟨_, .assign _, _, _, _, _⟩ :: _) _ _ _; refine awl_pw ?wtq (pv_assign rfl rfl) rfl rfl ?_) | (show AWL _ _ _ (⟨_, .binOp .leq _ _ _ _, _, _, _, _⟩ :: _) _ _ _; refine awl_pw ?wtq (pv_leq rfl rfl rfl) rfl rfl ?_) | (show AWL _ _ _ (⟨_, .pick _ _ _, _, _, _, _⟩ :: _) _ _ _; refine awl_pw ?wtq (pv_pick_t rfl rfl tfA rfl) rfl rfl ?_)); case wtq => exact wtA) | refine awl_nil ?_)
    refine body_p (.cons rfl .nil) ?_
    simp [inB, h1, resA]
  · have d1 := decide_eq_false h1
    repeat (first | refine awp_seq ?_ | refine awp_region_lit rfl ?_ | refine awp_ret ?_ | ((first | (show AWL _ _ _ (⟨_, .move _, _, _, _, _⟩ :: _) _ _ _; refine awl_pw ?wtq (pv_move rfl rfl) rfl rfl ?_) | (show AWL _ _ _ (⟨_, .assign _, _, _, _, _⟩ :: _) _ _ _; refine awl_pw ?wtq (pv_assign rfl rfl) rfl rfl ?_) | (show AWL _ _ _ (⟨_, .binOp .leq _ _ _ _, _, _, _, _⟩ :: _) _ _ _; refine awl_pw ?wtq (pv_leq rfl rfl rfl) rfl rfl ?_) | (show AWL _ _ _ (⟨_, .pick _ _ _, _, _, _, _⟩ :: _) _ _ _; refine awl_pw ?wtq (pv_pick_f rfl rfl tfA rfl) rfl rfl ?_)); case wtq => exact wtA) | refine awl_sk (wf_some rfl rfl rfl rfl tfA) rfl rfl ?_ | refine awl_nil ?_)
    refine body_p (.cons rfl .nil) ?_
    simp [inB, h1, resA]
theorem house_q {cp cc : Bool} {m : MktD} {n : Int} {r : Bool} (hl : m.hou.length ≤ 1000) (h : inB n 0 ((m.hou.length : Int) - 1) = r) : PCall Try.prog 211 [mktA cp cc m, intA n] (fun x => x = boolA r) := by
  refine acall_of_awp T0 Try.func211 rfl rfl rfl ?_
  repeat (first | refine awp_seq ?_ | refine awp_region_lit rfl ?_)
  refine awl_hw wtA (st_box rfl rfl raA (by first | assumption | (simp only [cellsA]; rfl)) rfl rfl ?_)
  intro g2
  repeat (first | refine awp_seq ?_ | refine awp_region_lit rfl ?_ | ((first | (show AWL _ _ _ (⟨_, .move _, _, _, _, _⟩ :: _) _ _ _; refine awl_pw ?wtq (pv_move rfl rfl) rfl rfl ?_) | (show AWL _ _ _ (⟨_, .assign _, _, _, _, _⟩ :: _) _ _ _; refine awl_pw ?wtq (pv_assign rfl rfl) rfl rfl ?_) | (show AWL _ _ _ (⟨_, .load _ _, _, _, _, _⟩ :: _) _ _ _; refine awl_lw ?wtq (lv_cl1 T0 rfl rfl rfl rcA raA) rfl rfl rfl ?_) | (show AWL _ _ _ (⟨_, .fieldAddr _ _ _, _, _, _, _⟩ :: _) _ _ _; refine awl_pw ?wtq (pv_fa T0 rfl rfl rfl (by simp; rfl)) rfl rfl ?_) | (show AWL _ _ _ (⟨_, .binOp .sub _ _ _ _, _, _, _, _⟩ :: _) _ _ _; refine awl_pw ?wtq (pv_sub rfl rfl rfl (by first | assumption | exact wr64 (by omega))) rfl rfl ?_) | (show AWL _ _ _ (⟨_, .call ⟨.builtin .len, _, _⟩, _, _, _, _⟩ :: _) _ _ _; refine awl_pw ?wtq (pv_len_t T0 rfl rfl rfl) rfl rfl ?_)); case wtq => exact wtA) | refine awl_nil ?_)
  refine awl_hw wtA (st_call T0 (within_q h) rfl rfl rfl rfl (by first | exact callee_lit | exact callee_v | exact callee_fn | assumption) rcA raA rfl ?_)
  rintro _ rfl
  repeat (first | refine awp_ret ?_ | ((first | (show AWL _ _ _ (⟨_, .assign _, _, _, _, _⟩ :: _) _ _ _; refine awl_pw ?wtq (pv_assign rfl rfl) rfl rfl ?_)); case wtq => exact wtA) | refine awl_nil ?_)
  exact body_p (.cons rfl .nil) rfl
theorem valid_p (h : HouD) : PCall Try.prog 196 [houA h] (fun x => x = boolA (houB h)) := by
  refine acall_of_awp T0 Try.func196 rfl rfl rfl ?_
  have hB : houB h = (decide (0 ≤ h.lo) && (decide (h.lo ≤ h.hi) && (decide (h.hi ≤ 200) && inB h.ask 0 1000))) := rfl
  repeat (first | refine awp_seq ?_ | refine awp_region_lit rfl ?_)
  refine awl_hw wtA (st_box rfl rfl raA (by first | assumption | (simp only [cellsA]; rfl)) rfl rfl ?_)
  intro g1
  repeat (first | refine awp_seq ?_ | refine awp_region_lit rfl ?_ | ((first | (show AWL _ _ _ (⟨_, .move _, _, _, _, _⟩ :: _) _ _ _; refine awl_pw ?wtq (pv_move rfl rfl) rfl rfl ?_) | (show AWL _ _ _ (⟨_, .assign _, _, _, _, _⟩ :: _) _ _ _; refine awl_pw ?wtq (pv_assign rfl rfl) rfl rfl ?_) | (show AWL _ _ _ (⟨_, .load _ _, _, _, _, _⟩ :: _) _ _ _; refine awl_lw ?wtq (lv_cl1 T0 rfl rfl rfl rcA raA) rfl rfl rfl ?_) | (show AWL _ _ _ (⟨_, .fieldAddr _ _ _, _, _, _, _⟩ :: _) _ _ _; refine awl_pw ?wtq (pv_fa T0 rfl rfl rfl (by simp; rfl)) rfl rfl ?_) | (show AWL _ _ _ (⟨_, .binOp .leq _ _ _ _, _, _, _, _⟩ :: _) _ _ _; refine awl_pw ?wtq (pv_leq rfl rfl rfl) rfl rfl ?_)); case wtq => exact wtA) | refine awl_nil ?_)
  by_cases e1 : 0 ≤ h.lo
  case neg =>
    have d1 := decide_eq_false e1
    repeat (first | refine awp_ret ?_ | ((first | (show AWL _ _ _ (⟨_, .move _, _, _, _, _⟩ :: _) _ _ _; refine awl_pw ?wtq (pv_move rfl rfl) rfl rfl ?_) | (show AWL _ _ _ (⟨_, .assign _, _, _, _, _⟩ :: _) _ _ _; refine awl_pw ?wtq (pv_assign rfl rfl) rfl rfl ?_) | (show AWL _ _ _ (⟨_, .fieldAddr _ _ _, _, _, _, _⟩ :: _) _ _ _; refine awl_pw ?wtq (pv_fa T0 rfl rfl rfl (by simp; rfl)) rfl rfl ?_) | (show AWL _ _ _ (⟨_, .pick _ _ _, _, _, _, _⟩ :: _) _ _ _; refine awl_pw ?wtq (pv_pick_f rfl rfl tfA rfl) rfl rfl ?_)); case wtq => exact wtA) | refine awl_sk (wf_some rfl rfl rfl rfl tfA) rfl rfl ?_ | refine awl_nil ?_)
    exact body_p (.cons rfl .nil) (by rw [hB, d1]; rfl)
  have d1 := decide_eq_true e1
  by_cases e2 : h.lo ≤ h.hi
  case neg =>
    have d2 := decide_eq_false e2
    repeat (first | refine awp_ret ?_ | ((first | (show AWL _ _ _ (⟨_, .move _, _, _, _, _⟩ :: _) _ _ _; refine awl_pw ?wtq (pv_move rfl rfl) rfl rfl ?_) | (show AWL _ _ _ (⟨_, .assign _, _, _, _, _⟩ :: _) _ _ _; refine awl_pw ?wtq (pv_assign rfl rfl) rfl rfl ?_) | (show AWL _ _ _ (⟨_, .load _ _, _, _, _, _⟩ :: _) _ _ _; refine awl_lw ?wtq (lv_cl1 T0 rfl rfl rfl rcA raA) rfl rfl rfl ?_) | (show AWL _ _ _ (⟨_, .fieldAddr _ _ _, _, _, _, _⟩ :: _) _ _ _; refine awl_pw ?wtq (pv_fa T0 rfl rfl rfl (by simp; rfl)) rfl rfl ?_) | (show AWL _ _ _ (⟨_, .binOp .leq _ _ _ _, _, _, _, _⟩ :: _) _ _ _; refine awl_pw ?wtq (pv_leq rfl rfl rfl) rfl rfl ?_) | (show AWL _ _ _ (⟨_, .pick _ _ _, _, _, _, _⟩ :: _) _ _ _; refine awl_pw ?wtq (pv_pick_t rfl rfl tfA rfl) rfl rfl ?_) | (show AWL _ _ _ (⟨_, .pick _ _ _, _, _, _, _⟩ :: _) _ _ _; refine awl_pw ?wtq (pv_pick_f rfl rfl tfA rfl) rfl rfl ?_)); case wtq => exact wtA) | refine awl_sk (wf_some rfl rfl rfl rfl tfA) rfl rfl ?_ | refine awl_nil ?_)
    exact body_p (.cons rfl .nil) (by rw [hB, d1, d2]; rfl)
  have d2 := decide_eq_true e2
  by_cases e3 : h.hi ≤ 200
  case neg =>
    have d3 := decide_eq_false e3
    repeat (first | refine awp_ret ?_ | ((first | (show AWL _ _ _ (⟨_, .move _, _, _, _, _⟩ :: _) _ _ _; refine awl_pw ?wtq (pv_move rfl rfl) rfl rfl ?_) | (show AWL _ _ _ (⟨_, .assign _, _, _, _, _⟩ :: _) _ _ _; refine awl_pw ?wtq (pv_assign rfl rfl) rfl rfl ?_) | (show AWL _ _ _ (⟨_, .load _ _, _, _, _, _⟩ :: _) _ _ _; refine awl_lw ?wtq (lv_cl1 T0 rfl rfl rfl rcA raA) rfl rfl rfl ?_) | (show AWL _ _ _ (⟨_, .fieldAddr _ _ _, _, _, _, _⟩ :: _) _ _ _; refine awl_pw ?wtq (pv_fa T0 rfl rfl rfl (by simp; rfl)) rfl rfl ?_) | (show AWL _ _ _ (⟨_, .binOp .leq _ _ _ _, _, _, _, _⟩ :: _) _ _ _; refine awl_pw ?wtq (pv_leq rfl rfl rfl) rfl rfl ?_) | (show AWL _ _ _ (⟨_, .pick _ _ _, _, _, _, _⟩ :: _) _ _ _; refine awl_pw ?wtq (pv_pick_t rfl rfl tfA rfl) rfl rfl ?_) | (show AWL _ _ _ (⟨_, .pick _ _ _, _, _, _, _⟩ :: _) _ _ _; refine awl_pw ?wtq (pv_pick_f rfl rfl tfA rfl) rfl rfl ?_)); case wtq => exact wtA) | refine awl_sk (wf_some rfl rfl rfl rfl tfA) rfl rfl ?_ | refine awl_nil ?_)
    exact body_p (.cons rfl .nil) (by rw [hB, d1, d2, d3]; rfl)
  have d3 := decide_eq_true e3
  repeat (first | ((first | (show AWL _ _ _ (⟨_, .move _, _, _, _, _⟩ :: _) _ _ _; refine awl_pw ?wtq (pv_move rfl rfl) rfl rfl ?_) | (show AWL _ _ _ (⟨_, .load _ _, _, _, _, _⟩ :: _) _ _ _; refine awl_lw ?wtq (lv_cl1 T0 rfl rfl rfl rcA raA) rfl rfl rfl ?_) | (show AWL _ _ _ (⟨_, .fieldAddr _ _ _, _, _, _, _⟩ :: _) _ _ _; refine awl_pw ?wtq (pv_fa T0 rfl rfl rfl (by simp; rfl)) rfl rfl ?_) | (show AWL _ _ _ (⟨_, .binOp .leq _ _ _ _, _, _, _, _⟩ :: _) _ _ _; refine awl_pw ?wtq (pv_leq rfl rfl rfl) rfl rfl ?_) | (show AWL _ _ _ (⟨_, .pick _ _ _, _, _, _, _⟩ :: _) _ _ _; refine awl_pw ?wtq (pv_pick_t rfl rfl tfA rfl) rfl rfl ?_)); case wtq => exact wtA))
  refine awl_hw wtA (st_call T0 (within_q (r := inB h.ask 0 1000) rfl) rfl rfl rfl rfl (by first | exact callee_lit | exact callee_v | exact callee_fn | assumption) rcA raA rfl ?_)
  rintro _ rfl
  repeat (first | refine awp_ret ?_ | ((first | (show AWL _ _ _ (⟨_, .assign _, _, _, _, _⟩ :: _) _ _ _; refine awl_pw ?wtq (pv_assign rfl rfl) rfl rfl ?_) | (show AWL _ _ _ (⟨_, .pick _ _ _, _, _, _, _⟩ :: _) _ _ _; refine awl_pw ?wtq (pv_pick_t rfl rfl tfA rfl) rfl rfl ?_)); case wtq => exact wtA) | refine awl_nil ?_)
  exact body_p (.cons rfl .nil) (by rw [hB, d1, d2, d3]; rfl)
theorem contract_p (cp cc : Bool) (m : MktD) (c : ConD) (hl : m.hou.length ≤ 1000) : PCall Try.prog 193 [mktA cp cc m, conA c] (fun x => x = boolA (conB m.hou.length c)) := by
  refine acall_of_awp T0 Try.func193 rfl rfl rfl ?_
  unfold conB
  repeat (first | refine awp_seq ?_ | refine awp_region_lit rfl ?_)
  refine awl_hw wtA (st_box rfl rfl raA (by first | assumption | (simp only [cellsA]; rfl)) rfl rfl ?_)
  intro g2
  skip
  refine awl_hw wtA (st_box rfl rfl raA (by first | assumption | (simp only [cellsA]; rfl)) rfl rfl ?_)
  intro g3
  repeat (first | refine awp_seq ?_ | refine awp_region_lit rfl ?_ | ((first | (show AWL _ _ _ (⟨_, .assign _, _, _, _, _⟩ :: _) _ _ _; refine awl_pw ?wtq (pv_assign rfl rfl) rfl rfl ?_) | (show AWL _ _ _ (⟨_, .load _ _, _, _, _, _⟩ :: _) _ _ _; refine awl_lw ?wtq (lv_cl1 T0 rfl rfl rfl rcA raA) rfl rfl rfl ?_) | (show AWL _ _ _ (⟨_, .load _ _, _, _, _, _⟩ :: _) _ _ _; refine awl_lw ?wtq (lv_cla T0 rfl rfl rfl rcA rfl) rfl rfl rfl ?_) | (show AWL _ _ _ (⟨_, .fieldAddr _ _ _, _, _, _, _⟩ :: _) _ _ _; refine awl_pw ?wtq (pv_fa T0 rfl rfl rfl (by simp; rfl)) rfl rfl ?_)); case wtq => exact wtA) | refine awl_nil ?_)
  cases e1 : inB c.sh 0 ((m.hou.length : Int) - 1)
  · refine awl_hw wtA (st_call T0 (house_q hl e1) rfl rfl rfl rfl (by first | exact callee_lit | exact callee_v | exact callee_fn | assumption) rcA raA rfl ?_)
    rintro _ rfl
    repeat (first | refine awp_ret ?_ | ((first | (show AWL _ _ _ (⟨_, .move _, _, _, _, _⟩ :: _) _ _ _; refine awl_pw ?wtq (pv_move rfl rfl) rfl rfl ?_) | (show AWL _ _ _ (⟨_, .assign _, _, _, _, _⟩ :: _) _ _ _; refine awl_pw ?wtq (pv_assign rfl rfl) rfl rfl ?_) | (show AWL _ _ _ (⟨_, .load _ _, _, _, _, _⟩ :: _) _ _ _; refine awl_lw ?wtq (lv_cla T0 rfl rfl rfl rcA rfl) rfl rfl rfl ?_) | (show AWL _ _ _ (⟨_, .fieldAddr _ _ _, _, _, _, _⟩ :: _) _ _ _; refine awl_pw ?wtq (pv_fa T0 rfl rfl rfl (by simp; rfl)) rfl rfl ?_) | (show AWL _ _ _ (⟨_, .pick _ _ _, _, _, _, _⟩ :: _) _ _ _; refine awl_pw ?wtq (pv_pick_f rfl rfl tfA rfl) rfl rfl ?_)); case wtq => exact wtA) | refine awl_sk (wf_some rfl rfl rfl rfl tfA) rfl rfl ?_ | refine awl_nil ?_)
    exact body_p (.cons rfl .nil) rfl
  refine awl_hw wtA (st_call T0 (house_q hl e1) rfl rfl rfl rfl (by first | exact callee_lit | exact callee_v | exact callee_fn | assumption) rcA raA rfl ?_)
  rintro _ rfl
  repeat (first | ((first | (show AWL _ _ _ (⟨_, .move _, _, _, _, _⟩ :: _) _ _ _; refine awl_pw ?wtq (pv_move rfl rfl) rfl rfl ?_) | (show AWL _ _ _ (⟨_, .load _ _, _, _, _, _⟩ :: _) _ _ _; refine awl_lw ?wtq (lv_cl1 T0 rfl rfl rfl rcA raA) rfl rfl rfl ?_) | (show AWL _ _ _ (⟨_, .load _ _, _, _, _, _⟩ :: _) _ _ _; refine awl_lw ?wtq (lv_cla T0 rfl rfl rfl rcA rfl) rfl rfl rfl ?_) | (show AWL _ _ _ (⟨_, .fieldAddr _ _ _, _, _, _, _⟩ :: _) _ _ _; refine awl_pw ?wtq (pv_fa T0 rfl rfl rfl (by simp; rfl)) rfl rfl ?_)); case wtq => exact wtA))
  cases e2 : inB c.lg 0 ((m.hou.length : Int) - 1)
  · refine awl_hw wtA (st_call T0 (house_q hl e2) rfl rfl rfl rfl (by first | exact callee_lit | exact callee_v | exact callee_fn | assumption) rcA raA rfl ?_)
    rintro _ rfl
    repeat (first | refine awp_ret ?_ | ((first | (show AWL _ _ _ (⟨_, .move _, _, _, _, _⟩ :: _) _ _ _; refine awl_pw ?wtq (pv_move rfl rfl) rfl rfl ?_) | (show AWL _ _ _ (⟨_, .assign _, _, _, _, _⟩ :: _) _ _ _; refine awl_pw ?wtq (pv_assign rfl rfl) rfl rfl ?_) | (show AWL _ _ _ (⟨_, .fieldAddr _ _ _, _, _, _, _⟩ :: _) _ _ _; refine awl_pw ?wtq (pv_fa T0 rfl rfl rfl (by simp; rfl)) rfl rfl ?_) | (show AWL _ _ _ (⟨_, .pick _ _ _, _, _, _, _⟩ :: _) _ _ _; refine awl_pw ?wtq (pv_pick_t rfl rfl tfA rfl) rfl rfl ?_) | (show AWL _ _ _ (⟨_, .pick _ _ _, _, _, _, _⟩ :: _) _ _ _; refine awl_pw ?wtq (pv_pick_f rfl rfl tfA rfl) rfl rfl ?_)); case wtq => exact wtA) | refine awl_sk (wf_some rfl rfl rfl rfl tfA) rfl rfl ?_ | refine awl_nil ?_)
    exact body_p (.cons rfl .nil) rfl
  refine awl_hw wtA (st_call T0 (house_q hl e2) rfl rfl rfl rfl (by first | exact callee_lit | exact callee_v | exact callee_fn | assumption) rcA raA rfl ?_)
  rintro _ rfl
  by_cases e3 : c.sh ≠ c.lg
  case neg =>
    have d3 : decide (c.sh ≠ c.lg) = false := decide_eq_false e3
    repeat (first | refine awp_ret ?_ | ((first | (show AWL _ _ _ (⟨_, .move _, _, _, _, _⟩ :: _) _ _ _; refine awl_pw ?wtq (pv_move rfl rfl) rfl rfl ?_) | (show AWL _ _ _ (⟨_, .assign _, _, _, _, _⟩ :: _) _ _ _; refine awl_pw ?wtq (pv_assign rfl rfl) rfl rfl ?_) | (show AWL _ _ _ (⟨_, .load _ _, _, _, _, _⟩ :: _) _ _ _; refine awl_lw ?wtq (lv_cl1 T0 rfl rfl rfl rcA raA) rfl rfl rfl ?_) | (show AWL _ _ _ (⟨_, .fieldAddr _ _ _, _, _, _, _⟩ :: _) _ _ _; refine awl_pw ?wtq (pv_fa T0 rfl rfl rfl (by simp; rfl)) rfl rfl ?_) | (show AWL _ _ _ (⟨_, .binOp .neq _ _ _ _, _, _, _, _⟩ :: _) _ _ _; refine awl_pw ?wtq (pv_neq rfl rfl rfl) rfl rfl ?_) | (show AWL _ _ _ (⟨_, .pick _ _ _, _, _, _, _⟩ :: _) _ _ _; refine awl_pw ?wtq (pv_pick_t rfl rfl tfA rfl) rfl rfl ?_) | (show AWL _ _ _ (⟨_, .pick _ _ _, _, _, _, _⟩ :: _) _ _ _; refine awl_pw ?wtq (pv_pick_f rfl rfl tfA rfl) rfl rfl ?_)); case wtq => exact wtA) | refine awl_sk (wf_some rfl rfl rfl rfl tfA) rfl rfl ?_ | refine awl_nil ?_)
    refine body_p (.cons rfl .nil) ?_
    rw [d3]
    rfl
  have d3 : decide (c.sh ≠ c.lg) = true := decide_eq_true e3
  repeat (first | ((first | (show AWL _ _ _ (⟨_, .move _, _, _, _, _⟩ :: _) _ _ _; refine awl_pw ?wtq (pv_move rfl rfl) rfl rfl ?_) | (show AWL _ _ _ (⟨_, .load _ _, _, _, _, _⟩ :: _) _ _ _; refine awl_lw ?wtq (lv_cl1 T0 rfl rfl rfl rcA raA) rfl rfl rfl ?_) | (show AWL _ _ _ (⟨_, .fieldAddr _ _ _, _, _, _, _⟩ :: _) _ _ _; refine awl_pw ?wtq (pv_fa T0 rfl rfl rfl (by simp; rfl)) rfl rfl ?_) | (show AWL _ _ _ (⟨_, .binOp .neq _ _ _ _, _, _, _, _⟩ :: _) _ _ _; refine awl_pw ?wtq (pv_neq rfl rfl rfl) rfl rfl ?_) | (show AWL _ _ _ (⟨_, .pick _ _ _, _, _, _, _⟩ :: _) _ _ _; refine awl_pw ?wtq (pv_pick_t rfl rfl tfA rfl) rfl rfl ?_)); case wtq => exact wtA))
  refine awl_hw wtA (st_call T0 (within_q (r := inB c.n 1 200) rfl) rfl rfl rfl rfl (by first | exact callee_lit | exact callee_v | exact callee_fn | assumption) rcA raA rfl ?_)
  rintro _ rfl
  repeat (first | refine awp_ret ?_ | ((first | (show AWL _ _ _ (⟨_, .assign _, _, _, _, _⟩ :: _) _ _ _; refine awl_pw ?wtq (pv_assign rfl rfl) rfl rfl ?_) | (show AWL _ _ _ (⟨_, .pick _ _ _, _, _, _, _⟩ :: _) _ _ _; refine awl_pw ?wtq (pv_pick_t rfl rfl tfA rfl) rfl rfl ?_)); case wtq => exact wtA) | refine awl_nil ?_)
  refine body_p (.cons rfl .nil) ?_
  rw [d3]
  rfl
def IdxOf (q : Nat → Bool) (n : Nat) (z : Int) : Prop := (z = -1 ∧ ∀ k, k < n → q k = false) ∨ ∃ k, k < n ∧ z = k ∧ q k = true ∧ ∀ j, j < k → q j = false
theorem hidx_p {fv : AV} {g : Nat} {fs cs : List AV} {e : Ent} {q : Nat → Bool} (cp : Bool) (l : List HouD) (hl : l.length ≤ 1000) (hcal : Tl.Callee fv g fs cs) (hg : T0.fns.any g.beq = true)
    (hq : ∀ k, k < l.length → ACall Try.prog g (fs ++ [houA (l.getD k default)] ++ cs) [e] (fun r h' => r = boolA (q k) ∧ h' = [e])) :
    ACall Try.prog 221 [.t (housT cp l), fv] [e] (fun r h' => (∃ z, r = intA z ∧ IdxOf q l.length z) ∧ h' = [e]) := by
  refine acall_of_awp T0 Try.func221 rfl rfl rfl ?_
  repeat (first | refine awp_seq ?_ | refine awp_block ?_ | refine awp_region_lit rfl ?_ | ((first | (show AWL _ _ _ (⟨_, .move _, _, _, _, _⟩ :: _) _ _ _; refine awl_pw ?wtq (pv_move rfl rfl) rfl rfl ?_) | (show AWL _ _ _ (⟨_, .assign _, _, _, _, _⟩ :: _) _ _ _; refine awl_pw ?wtq (pv_assign rfl rfl) rfl rfl ?_) | (show AWL _ _ _ (⟨_, .call ⟨.builtin .len, _, _⟩, _, _, _, _⟩ :: _) _ _ _; refine awl_pw ?wtq (pv_len_t T0 rfl rfl rfl) rfl rfl ?_)); case wtq => exact wtA) | refine awl_nil ?_)
  refine awp_loop (fun m s h => ∃ (k : Nat), k ≤ l.length ∧ m = l.length - k ∧ (∀ j, j < k → q j = false) ∧ s = [(0, .t (housT cp l)), (1, fv), (7, intA l.length), (8, intA k)] ∧ h = [e]) ?_ ⟨0, Nat.zero_le _, rfl, (fun j hj => absurd hj (Nat.not_lt_zero _)), rfl, rfl⟩ ssA rcA
  rintro m s h ⟨k, hk, rfl, hno, rfl, rfl⟩
  by_cases hkt : k < l.length
  case neg =>
    obtain rfl : k = l.length := by omega
    repeat (first | refine awp_seq ?_ | refine awp_region_lit rfl ?_ | refine awp_exit ?_ | refine awp_ret ?_ | refine awp_cond_f rfl (by first | rfl | assumption | exact dF (by omega)) ?_ | ((first | (show AWL _ _ _ (⟨_, .assign _, _, _, _, _⟩ :: _) _ _ _; refine awl_pw ?wtq (pv_assign rfl rfl) rfl rfl ?_) | (show AWL _ _ _ (⟨_, .binOp .lss _ _ _ _, _, _, _, _⟩ :: _) _ _ _; refine awl_pw ?wtq (pv_lss rfl rfl rfl) rfl rfl ?_)); case wtq => exact wtA) | refine awl_nil ?_)
    exact body_r (h' := [e]) (.cons rfl .nil) rcA ⟨⟨-1, rfl, .inl ⟨rfl, hno⟩⟩, rfl⟩
  have hc := hq k hkt
  cases c : q k
  · rw [c] at hc
    repeat (first | refine awp_seq ?_ | refine awp_block ?_ | refine awp_region_lit rfl ?_ | refine awp_skip ?_ | refine awp_cond_t rfl (by first | rfl | assumption | exact dT (by omega)) ?_ | ((first | (show AWL _ _ _ (⟨_, .move _, _, _, _, _⟩ :: _) _ _ _; refine awl_pw ?wtq (pv_move rfl rfl) rfl rfl ?_) | (show AWL _ _ _ (⟨_, .assign _, _, _, _, _⟩ :: _) _ _ _; refine awl_pw ?wtq (pv_assign rfl rfl) rfl rfl ?_) | (show AWL _ _ _ (⟨_, .load _ _, _, _, _, _⟩ :: _) _ _ _; refine awl_lw ?wtq (lv_elt_ag T0 rfl rfl rfl rfl rcA) rfl rfl rfl ?_) | (show AWL _ _ _ (⟨_, .indexAddr _ _ _, _, _, _, _⟩ :: _) _ _ _; refine awl_pw ?wtq (pv_ix_t T0 rfl rfl rfl rfl (by omega) ixA) rfl rfl ?_) | (show AWL _ _ _ (⟨_, .binOp .lss _ _ _ _, _, _, _, _⟩ :: _) _ _ _; refine awl_pw ?wtq (pv_lss rfl rfl rfl) rfl rfl ?_)); case wtq => exact wtA) | refine awl_nil ?_)
    refine awl_hw wtA (st_acall T0 (hc) rfl rfl rfl rfl (by first | exact callee_lit | exact callee_v | exact callee_fn | assumption) rcA raA rfl (by first | ((repeat' (first | exact SubH.refl _ | apply SubH.cons | exact Pick.here | apply Pick.there)); all_goals fail) | fail) (fun _ _ => trivial) ?_)
    rintro r h ⟨rfl, rfl⟩
    repeat (first | refine awp_region_lit rfl ?_ | refine awp_skip ?_ | with_reducible refine then_n ?_ | refine awp_cond_f rfl (by first | rfl | assumption | exact dF (by omega)) ?_ | ((first | (show AWL _ _ _ (⟨_, .move _, _, _, _, _⟩ :: _) _ _ _; refine awl_pw ?wtq (pv_move rfl rfl) rfl rfl ?_) | (show AWL _ _ _ (⟨_, .binOp .add _ _ _ _, _, _, _, _⟩ :: _) _ _ _; refine awl_pw ?wtq (pv_add rfl rfl rfl (by first | assumption | exact wr64 (by omega))) rfl rfl ?_)); case wtq => exact wtA) | refine awl_nil ?_)
    refine rnd_n _ _ _ ?_ ⟨k + 1, hkt, rfl, fun j hj => ?_, rfl, rfl⟩ ssA rcA
    · omega
    · by_cases e' : j = k
      · subst e'; exact c
      · exact hno j (by omega)
  · rw [c] at hc
    repeat (first | refine awp_seq ?_ | refine awp_block ?_ | refine awp_region_lit rfl ?_ | refine awp_skip ?_ | refine awp_cond_t rfl (by first | rfl | assumption | exact dT (by omega)) ?_ | ((first | (show AWL _ _ _ (⟨_, .move _, _, _, _, _⟩ :: _) _ _ _; refine awl_pw ?wtq (pv_move rfl rfl) rfl rfl ?_) | (show AWL _ _ _ (⟨_, .assign _, _, _, _, _⟩ :: _) _ _ _; refine awl_pw ?wtq (pv_assign rfl rfl) rfl rfl ?_) | (show AWL _ _ _ (⟨_, .load _ _, _, _, _, _⟩ :: _) _ _ _; refine awl_lw ?wtq (lv_elt_ag T0 rfl rfl rfl rfl rcA) rfl rfl rfl ?_) | (show AWL _ _ _ (⟨_, .indexAddr _ _ _, _, _, _, _⟩ :: _) _ _ _; refine awl_pw ?wtq (pv_ix_t T0 rfl rfl rfl rfl (by omega) ixA) rfl rfl ?_) | (show AWL _ _ _ (⟨_, .binOp .lss _ _ _ _, _, _, _, _⟩ :: _) _ _ _; refine awl_pw ?wtq (pv_lss rfl rfl rfl) rfl rfl ?_)); case wtq => exact wtA) | refine awl_nil ?_)
    refine awl_hw wtA (st_acall T0 (hc) rfl rfl rfl rfl (by first | exact callee_lit | exact callee_v | exact callee_fn | assumption) rcA raA rfl (by first | ((repeat' (first | exact SubH.refl _ | apply SubH.cons | exact Pick.here | apply Pick.there)); all_goals fail) | fail) (fun _ _ => trivial) ?_)
    rintro r h ⟨rfl, rfl⟩
    repeat (first | refine awp_seq ?_ | refine awp_region_lit rfl ?_ | refine awp_ret ?_ | with_reducible refine then_n ?_ | with_reducible refine then_r ?_ | with_reducible refine blk_r ?_ | refine rnd_r ?_ | refine awp_cond_t rfl (by first | rfl | assumption | exact dT (by omega)) ?_ | ((first | (show AWL _ _ _ (⟨_, .move _, _, _, _, _⟩ :: _) _ _ _; refine awl_pw ?wtq (pv_move rfl rfl) rfl rfl ?_) | (show AWL _ _ _ (⟨_, .assign _, _, _, _, _⟩ :: _) _ _ _; refine awl_pw ?wtq (pv_assign rfl rfl) rfl rfl ?_)); case wtq => exact wtA) | refine awl_nil ?_)
    exact body_r (h' := [e]) (.cons rfl .nil) rcA ⟨⟨k, rfl, .inr ⟨k, hkt, rfl, c, hno⟩⟩, rfl⟩
theorem hcallp_p {pv : AV} {g gp : Nat} {fs cs : List AV} {r : Bool} (c : HouD) (hone : oneA pv = true) (hcal : Tl.Callee pv g fs cs) (hg : T0.fns.any g.beq = true) (hp : PCall Try.prog g (fs ++ [houA c] ++ cs) (fun x => x = boolA r)) :
    ACall Try.prog 213 [houA c, .v (ptrV gp)] [.cl gp 309 [pv]] (fun x h' => x = boolA (!r) ∧ h' = [.cl gp 309 [pv]]) := by
  refine acall_of_awp T0 Try.func213 rfl rfl rfl ?_
  repeat (first | refine awp_seq ?_ | refine awp_region_lit rfl ?_)
  refine awl_hw wtA (st_box rfl rfl raA (by first | assumption | (simp only [cellsA]; rfl)) rfl rfl ?_)
  intro g2
  repeat (first | refine awp_seq ?_ | refine awp_region_lit rfl ?_ | ((first | (show AWL _ _ _ (⟨_, .assign _, _, _, _, _⟩ :: _) _ _ _; refine awl_pw ?wtq (pv_assign rfl rfl) rfl rfl ?_) | (show AWL _ _ _ (⟨_, .load _ _, _, _, _, _⟩ :: _) _ _ _; refine awl_lw ?wtq (lv_cl1 T0 rfl rfl rfl rcA raA) rfl rfl rfl ?_) | (show AWL _ _ _ (⟨_, .load _ _, _, _, _, _⟩ :: _) _ _ _; refine awl_lw ?wtq (lv_cla T0 rfl rfl rfl rcA rfl) rfl rfl rfl ?_)); case wtq => exact wtA) | refine awl_nil ?_)
  refine awl_hw wtA (st_call T0 (hp) rfl rfl rfl rfl (by first | exact callee_lit | exact callee_v | exact callee_fn | assumption) rcA raA rfl ?_)
  rintro _ rfl
  repeat (first | refine awp_ret ?_ | ((first | (show AWL _ _ _ (⟨_, .assign _, _, _, _, _⟩ :: _) _ _ _; refine awl_pw ?wtq (pv_assign rfl rfl) rfl rfl ?_) | (show AWL _ _ _ (⟨_, .unOp .not _ _, _, _, _, _⟩ :: _) _ _ _; refine awl_pw ?wtq (pv_not rfl rfl) rfl rfl ?_)); case wtq => exact wtA) | refine awl_nil ?_)
  exact body_r (h' := [.cl gp 309 [pv]]) (.cons rfl .nil) rcA ⟨rfl, rfl⟩
theorem hcont_p {fv : AV} {g : Nat} {fs cs : List AV} {e : Ent} {q : Nat → Bool} (cp : Bool) (l : List HouD) (hl : l.length ≤ 1000) (hcal : Tl.Callee fv g fs cs) (hg : T0.fns.any g.beq = true)
    (hq : ∀ k, k < l.length → ACall Try.prog g (fs ++ [houA (l.getD k default)] ++ cs) [e] (fun r h' => r = boolA (q k) ∧ h' = [e])) :
    ACall Try.prog 212 [.t (housT cp l), fv] [e] (fun r h' => r = boolA ((List.range l.length).any q) ∧ h' = [e]) := by
  refine acall_of_awp T0 Try.func212 rfl rfl rfl ?_
  repeat (first | refine awp_seq ?_ | refine awp_region_lit rfl ?_ | ((first | (show AWL _ _ _ (⟨_, .move _, _, _, _, _⟩ :: _) _ _ _; refine awl_pw ?wtq (pv_move rfl rfl) rfl rfl ?_) | (show AWL _ _ _ (⟨_, .assign _, _, _, _, _⟩ :: _) _ _ _; refine awl_pw ?wtq (pv_assign rfl rfl) rfl rfl ?_)); case wtq => exact wtA) | refine awl_nil ?_)
  refine awl_hw wtA (st_acall T0 (hidx_p cp l hl hcal hg hq) rfl rfl rfl rfl (by first | exact callee_lit | exact callee_v | exact callee_fn | assumption) rcA raA rfl (by first | ((repeat' (first | exact SubH.refl _ | apply SubH.cons | exact Pick.here | apply Pick.there)); all_goals fail) | fail) (fun _ _ => trivial) ?_)
  rintro r h ⟨⟨z, rfl, hz⟩, rfl⟩
  rcases hz with ⟨rfl, hz⟩ | ⟨k, hk, rfl, hk1, _⟩
  · have hA : (List.range l.length).any q = false := by
      rw [List.any_eq_false]; intro x hx; rw [hz x (List.mem_range.1 hx)]; simp
    repeat (first | refine awp_ret ?_ | ((first | (show AWL _ _ _ (⟨_, .assign _, _, _, _, _⟩ :: _) _ _ _; refine awl_pw ?wtq (pv_assign rfl rfl) rfl rfl ?_) | (show AWL _ _ _ (⟨_, .binOp .geq _ _ _ _, _, _, _, _⟩ :: _) _ _ _; refine awl_pw ?wtq (pv_geq rfl rfl rfl) rfl rfl ?_)); case wtq => exact wtA) | refine awl_nil ?_)
    refine body_r (h' := [e]) (.cons rfl .nil) rcA ⟨?_, rfl⟩
    rw [hA]; rfl
  · have hA : (List.range l.length).any q = true := List.any_eq_true.2 ⟨k, List.mem_range.2 hk, hk1⟩
    have d1 : decide ((0 : Int) ≤ (k : Int)) = true := decide_eq_true (by omega)
    repeat (first | refine awp_ret ?_ | ((first | (show AWL _ _ _ (⟨_, .assign _, _, _, _, _⟩ :: _) _ _ _; refine awl_pw ?wtq (pv_assign rfl rfl) rfl rfl ?_) | (show AWL _ _ _ (⟨_, .binOp .geq _ _ _ _, _, _, _, _⟩ :: _) _ _ _; refine awl_pw ?wtq (pv_geq rfl rfl rfl) rfl rfl ?_)); case wtq => exact wtA) | refine awl_nil ?_)
    refine body_r (h' := [e]) (.cons rfl .nil) rcA ⟨?_, rfl⟩
    rw [hA, d1]; rfl
theorem hall_p {pv : AV} {g : Nat} {fs cs : List AV} {p : HouD → Bool} (cp : Bool) (l : List HouD) (hl : l.length ≤ 1000) (hone : oneA pv = true) (hcal : Tl.Callee pv g fs cs) (hg : T0.fns.any g.beq = true) (hp : ∀ c, c ∈ l → PCall Try.prog g (fs ++ [houA c] ++ cs) (fun x => x = boolA (p c))) :
    PCall Try.prog 195 [.t (housT cp l), pv] (fun r => r = boolA (l.all p)) := by
  refine acall_of_awp T0 Try.func195 rfl rfl rfl ?_
  have hA : (!(List.range l.length).any fun k => !p (l.getD k default)) = l.all p := by
    rw [Bool.eq_iff_iff, all_getD (d := default)]
    simp only [Bool.not_eq_true', List.any_eq_false, List.mem_range, Bool.not_eq_true]
    exact ⟨fun h k hk => by simpa using h k hk, fun h k hk => by rw [h k hk]; decide⟩
  have hok : okA pv = true := by cases pv <;> first | rfl | exact hone
  have hcells : cellsA pv = [pv] := by cases pv <;> first | rfl | cases hone
  repeat (first | refine awp_seq ?_ | refine awp_region_lit rfl ?_)
  refine awl_hw wtA (st_box rfl rfl raA (by first | assumption | (simp only [cellsA]; rfl)) rfl rfl ?_)
  intro g3
  repeat (first | refine awp_seq ?_ | refine awp_region_lit rfl ?_ | ((first | (show AWL _ _ _ (⟨_, .move _, _, _, _, _⟩ :: _) _ _ _; refine awl_pw ?wtq (pv_move rfl rfl) rfl rfl ?_) | (show AWL _ _ _ (⟨_, .assign _, _, _, _, _⟩ :: _) _ _ _; refine awl_pw ?wtq (pv_assign rfl rfl) rfl rfl ?_)); case wtq => exact wtA) | refine awl_nil ?_)
  refine awl_pw (wt_none rfl) (pv_makeFunc_v (fs := []) (cs := [ptrV g3]) rfl rfl rfl) rfl rfl ?_
  skip
  refine awl_hw wtA (st_acall T0 (hcont_p (e := .cl g3 309 [pv]) (q := fun k => !p (l.getD k default)) cp l hl callee_v rfl (fun k hk => hcallp_p (l.getD k default) hone hcal hg (hp _ (getD_mem hk)))) rfl rfl rfl rfl (by first | exact callee_lit | exact callee_v | exact callee_fn | assumption) rcA raA rfl (by first | ((repeat' (first | exact SubH.refl _ | apply SubH.cons | exact Pick.here | apply Pick.there)); all_goals fail) | fail) (fun _ _ => trivial) ?_)
  rintro r h ⟨rfl, rfl⟩
  repeat (first | refine awp_ret ?_ | ((first | (show AWL _ _ _ (⟨_, .assign _, _, _, _, _⟩ :: _) _ _ _; refine awl_pw ?wtq (pv_assign rfl rfl) rfl rfl ?_) | (show AWL _ _ _ (⟨_, .unOp .not _ _, _, _, _, _⟩ :: _) _ _ _; refine awl_pw ?wtq (pv_not rfl rfl) rfl rfl ?_)); case wtq => exact wtA) | refine awl_nil ?_)
  refine body_p (.cons rfl .nil) ?_
  rw [← hA]; rfl
theorem cidx_p {fv : AV} {g : Nat} {fs cs : List AV} {e : Ent} {q : Nat → Bool} (cp : Bool) (l : List ConD) (hl : l.length ≤ 1000) (hcal : Tl.Callee fv g fs cs) (hg : T0.fns.any g.beq = true)
    (hq : ∀ k, k < l.length → ACall Try.prog g (fs ++ [conA (l.getD k default)] ++ cs) [e] (fun r h' => r = boolA (q k) ∧ h' = [e])) :
    ACall Try.prog 222 [.t (consT cp l), fv] [e] (fun r h' => (∃ z, r = intA z ∧ IdxOf q l.length z) ∧ h' = [e]) := by
  refine acall_of_awp T0 Try.func222 rfl rfl rfl ?_
  repeat (first | refine awp_seq ?_ | refine awp_block ?_ | refine awp_region_lit rfl ?_ | ((first | (show AWL _ _ _ (⟨_, .move _, _, _, _, _⟩ :: _) _ _ _; refine awl_pw ?wtq (pv_move rfl rfl) rfl rfl ?_) | (show AWL _ _ _ (⟨_, .assign _, _, _, _, _⟩ :: _) _ _ _; refine awl_pw ?wtq (pv_assign rfl rfl) rfl rfl ?_) | (show AWL _ _ _ (⟨_, .call ⟨.builtin .len, _, _⟩, _, _, _, _⟩ :: _) _ _ _; refine awl_pw ?wtq (pv_len_t T0 rfl rfl rfl) rfl rfl ?_)); case wtq => exact wtA) | refine awl_nil ?_)
  refine awp_loop (fun m s h => ∃ (k : Nat), k ≤ l.length ∧ m = l.length - k ∧ (∀ j, j < k → q j = false) ∧ s = [(0, .t (consT cp l)), (1, fv), (7, intA l.length), (8, intA k)] ∧ h = [e]) ?_ ⟨0, Nat.zero_le _, rfl, (fun j hj => absurd hj (Nat.not_lt_zero _)), rfl, rfl⟩ ssA rcA
  rintro m s h ⟨k, hk, rfl, hno, rfl, rfl⟩
  by_cases hkt : k < l.length
  case neg =>
    obtain rfl : k = l.length := by omega
    repeat (first | refine awp_seq ?_ | refine awp_region_lit rfl ?_ | refine awp_exit ?_ | refine awp_ret ?_ | refine awp_cond_f rfl (by first | rfl | assumption | exact dF (by omega)) ?_ | ((first | (show AWL _ _ _ (⟨_, .assign _, _, _, _, _⟩ :: _) _ _ _; refine awl_pw ?wtq (pv_assign rfl rfl) rfl rfl ?_) | (show AWL _ _ _ (⟨_, .binOp .lss _ _ _ _, _, _, _, _⟩ :: _) _ _ _; refine awl_pw ?wtq (pv_lss rfl rfl rfl) rfl rfl ?_)); case wtq => exact wtA) | refine awl_nil ?_)
    exact body_r (h' := [e]) (.cons rfl .nil) rcA ⟨⟨-1, rfl, .inl ⟨rfl, hno⟩⟩, rfl⟩
  have hc := hq k hkt
  cases c : q k
  · rw [c] at hc
    repeat (first | refine awp_seq ?_ | refine awp_block ?_ | refine awp_region_lit rfl ?_ | refine awp_skip ?_ | refine awp_cond_t rfl (by first | rfl | assumption | exact dT (by omega)) ?_ | ((first | (show AWL _ _ _ (⟨_, .move _, _, _, _, _⟩ :: _) _ _ _; refine awl_pw ?wtq (pv_move rfl rfl) rfl rfl ?_) | (show AWL _ _ _ (⟨_, .assign _, _, _, _, _⟩ :: _) _ _ _; refine awl_pw ?wtq (pv_assign rfl rfl) rfl rfl ?_) | (show AWL _ _ _ (⟨_, .load _ _, _, _, _, _⟩ :: _) _ _ _; refine awl_lw ?wtq (lv_elt_ag T0 rfl rfl rfl rfl rcA) rfl rfl rfl ?_) | (show AWL _ _ _ (⟨_, .indexAddr _ _ _, _, _, _, _⟩ :: _) _ _ _; refine awl_pw ?wtq (pv_ix_t T0 rfl rfl rfl rfl (by omega) ixA) rfl rfl ?_) | (show AWL _ _ _ (⟨_, .binOp .lss _ _ _ _, _, _, _, _⟩ :: _) _ _ _; refine awl_pw ?wtq (pv_lss rfl rfl rfl) rfl rfl ?_)); case wtq => exact wtA) | refine awl_nil ?_)
    refine awl_hw wtA (st_acall T0 (hc) rfl rfl rfl rfl (by first | exact callee_lit | exact callee_v | exact callee_fn | assumption) rcA raA rfl (by first | ((repeat' (first | exact SubH.refl _ | apply SubH.cons | exact Pick.here | apply Pick.there)); all_goals fail) | fail) (fun _ _ => trivial) ?_)
    rintro r h ⟨rfl, rfl⟩
    repeat (first | refine awp_region_lit rfl ?_ | refine awp_skip ?_ | with_reducible refine then_n ?_ | refine awp_cond_f rfl (by first | rfl | assumption | exact dF (by omega)) ?_ | ((first | (show AWL _ _ _ (⟨_, .move _, _, _, _, _⟩ :: _) _ _ _; refine awl_pw ?wtq (pv_move rfl rfl) rfl rfl ?_) | (show AWL _ _ _ (⟨_, .binOp .add _ _ _ _, _, _, _, _⟩ :: _) _ _ _; refine awl_pw ?wtq (pv_add rfl rfl rfl (by first | assumption | exact wr64 (by omega))) rfl rfl ?_)); case wtq => exact wtA) | refine awl_nil ?_)
    refine rnd_n _ _ _ ?_ ⟨k + 1, hkt, rfl, fun j hj => ?_, rfl, rfl⟩ ssA rcA
    · omega
    · by_cases e' : j = k
      · subst e'; exact c
      · exact hno j (by omega)
  · rw [c] at hc
    repeat (first | refine awp_seq ?_ | refine awp_block ?_ | refine awp_region_lit rfl ?_ | refine awp_skip ?_ | refine awp_cond_t rfl (by first | rfl | assumption | exact dT (by omega)) ?_ | ((first | (show AWL _ _ _ (⟨_, .move _, _, _, _, _⟩ :: _) _ _ _; refine awl_pw ?wtq (pv_move rfl rfl) rfl rfl ?_) | (show AWL _ _ _ (⟨_, .assign _, _, _, _, _⟩ :: _) _ _ _; refine awl_pw ?wtq (pv_assign rfl rfl) rfl rfl ?_) | (show AWL _ _ _ (⟨_, .load _ _, _, _, _, _⟩ :: _) _ _ _; refine awl_lw ?wtq (lv_elt_ag T0 rfl rfl rfl rfl rcA) rfl rfl rfl ?_) | (show AWL _ _ _ (⟨_, .indexAddr _ _ _, _, _, _, _⟩ :: _) _ _ _; refine awl_pw ?wtq (pv_ix_t T0 rfl rfl rfl rfl (by omega) ixA) rfl rfl ?_) | (show AWL _ _ _ (⟨_, .binOp .lss _ _ _ _, _, _, _, _⟩ :: _) _ _ _; refine awl_pw ?wtq (pv_lss rfl rfl rfl) rfl rfl ?_)); case wtq => exact wtA) | refine awl_nil ?_)
    refine awl_hw wtA (st_acall T0 (hc) rfl rfl rfl rfl (by first | exact callee_lit | exact callee_v | exact callee_fn | assumption) rcA raA rfl (by first | ((repeat' (first | exact SubH.refl _ | apply SubH.cons | exact Pick.here | apply Pick.there)); all_goals fail) | fail) (fun _ _ => trivial) ?_)
    rintro r h ⟨rfl, rfl⟩
    repeat (first | refine awp_seq ?_ | refine awp_region_lit rfl ?_ | refine awp_ret ?_ | with_reducible refine then_n ?_ | with_reducible refine then_r ?_ | with_reducible refine blk_r ?_ | refine rnd_r ?_ | refine awp_cond_t rfl (by first | rfl | assumption | exact dT (by omega)) ?_ | ((first | (show AWL _ _ _ (⟨_, .move _, _, _, _, _⟩ :: _) _ _ _; refine awl_pw ?wtq (pv_move rfl rfl) rfl rfl ?_) | (show AWL _ _ _ (⟨_, .assign _, _, _, _, _⟩ :: _) _ _ _; refine awl_pw ?wtq (pv_assign rfl rfl) rfl rfl ?_)); case wtq => exact wtA) | refine awl_nil ?_)
    exact body_r (h' := [e]) (.cons rfl .nil) rcA ⟨⟨k, rfl, .inr ⟨k, hkt, rfl, c, hno⟩⟩, rfl⟩
theorem ccallp_p {pv : AV} {g gp : Nat} {fs cs : List AV} {r : Bool} (c : ConD) (hone : oneA pv = true) (hcal : Tl.Callee pv g fs cs) (hg : T0.fns.any g.beq = true) (hp : PCall Try.prog g (fs ++ [conA c] ++ cs) (fun x => x = boolA r)) :
    ACall Try.prog 215 [conA c, .v (ptrV gp)] [.cl gp 307 [pv]] (fun x h' => x = boolA (!r) ∧ h' = [.cl gp 307 [pv]]) := by
  refine acall_of_awp T0 Try.func215 rfl rfl rfl ?_
  repeat (first | refine awp_seq ?_ | refine awp_region_lit rfl ?_)
  refine awl_hw wtA (st_box rfl rfl raA (by first | assumption | (simp only [cellsA]; rfl)) rfl rfl ?_)
  intro g2
  repeat (first | refine awp_seq ?_ | refine awp_region_lit rfl ?_ | ((first | (show AWL _ _ _ (⟨_, .assign _, _, _, _, _⟩ :: _) _ _ _; refine awl_pw ?wtq (pv_assign rfl rfl) rfl rfl ?_) | (show AWL _ _ _ (⟨_, .load _ _, _, _, _, _⟩ :: _) _ _ _; refine awl_lw ?wtq (lv_cl1 T0 rfl rfl rfl rcA raA) rfl rfl rfl ?_) | (show AWL _ _ _ (⟨_, .load _ _, _, _, _, _⟩ :: _) _ _ _; refine awl_lw ?wtq (lv_cla T0 rfl rfl rfl rcA rfl) rfl rfl rfl ?_)); case wtq => exact wtA) | refine awl_nil ?_)
  refine awl_hw wtA (st_call T0 (hp) rfl rfl rfl rfl (by first | exact callee_lit | exact callee_v | exact callee_fn | assumption) rcA raA rfl ?_)
  rintro _ rfl
  repeat (first | refine awp_ret ?_ | ((first | (show AWL _ _ _ (⟨_, .assign _, _, _, _, _⟩ :: _) _ _ _; refine awl_pw ?wtq (pv_assign rfl rfl) rfl rfl ?_) | (show AWL _ _ _ (⟨_, .unOp .not _ _, _, _, _, _⟩ :: _) _ _ _; refine awl_pw ?wtq (pv_not rfl rfl) rfl rfl ?_)); case wtq => exact wtA) | refine awl_nil ?_)
  exact body_r (h' := [.cl gp 307 [pv]]) (.cons rfl .nil) rcA ⟨rfl, rfl⟩
theorem ccont_p {fv : AV} {g : Nat} {fs cs : List AV} {e : Ent} {q : Nat → Bool} (cp : Bool) (l : List ConD) (hl : l.length ≤ 1000) (hcal : Tl.Callee fv g fs cs) (hg : T0.fns.any g.beq = true)
    (hq : ∀ k, k < l.length → ACall Try.prog g (fs ++ [conA (l.getD k default)] ++ cs) [e] (fun r h' => r = boolA (q k) ∧ h' = [e])) :
    ACall Try.prog 214 [.t (consT cp l), fv] [e] (fun r h' => r = boolA ((List.range l.length).any q) ∧ h' = [e]) := by
  refine acall_of_awp T0 Try.func214 rfl rfl rfl ?_
  repeat (first | refine awp_seq ?_ | refine awp_region_lit rfl ?_ | ((first | (show AWL _ _ _ (⟨_, .move _, _, _, _, _⟩ :: _) _ _ _; refine awl_pw ?wtq (pv_move rfl rfl) rfl rfl ?_) | (show AWL _ _ _ (⟨_, .assign _, _, _, _, _⟩ :: _) _ _ _; refine awl_pw ?wtq (pv_assign rfl rfl) rfl rfl ?_)); case wtq => exact wtA) | refine awl_nil ?_)
  refine awl_hw wtA (st_acall T0 (cidx_p cp l hl hcal hg hq) rfl rfl rfl rfl (by first | exact callee_lit | exact callee_v | exact callee_fn | assumption) rcA raA rfl (by first | ((repeat' (first | exact SubH.refl _ | apply SubH.cons | exact Pick.here | apply Pick.there)); all_goals fail) | fail) (fun _ _ => trivial) ?_)
  rintro r h ⟨⟨z, rfl, hz⟩, rfl⟩
  rcases hz with ⟨rfl, hz⟩ | ⟨k, hk, rfl, hk1, _⟩
  · have hA : (List.range l.length).any q = false := by
      rw [List.any_eq_false]; intro x hx; rw [hz x (List.mem_range.1 hx)]; simp
    repeat (first | refine awp_ret ?_ | ((first | (show AWL _ _ _ (⟨_, .assign _, _, _, _, _⟩ :: _) _ _ _; refine awl_pw ?wtq (pv_assign rfl rfl) rfl rfl ?_) | (show AWL _ _ _ (⟨_, .binOp .geq _ _ _ _, _, _, _, _⟩ :: _) _ _ _; refine awl_pw ?wtq (pv_geq rfl rfl rfl) rfl rfl ?_)); case wtq => exact wtA) | refine awl_nil ?_)
    refine body_r (h' := [e]) (.cons rfl .nil) rcA ⟨?_, rfl⟩
    rw [hA]; rfl
  · have hA : (List.range l.length).any q = true := List.any_eq_true.2 ⟨k, List.mem_range.2 hk, hk1⟩
    have d1 : decide ((0 : Int) ≤ (k : Int)) = true := decide_eq_true (by omega)
    repeat (first | refine awp_ret ?_ | ((first | (show AWL _ _ _ (⟨_, .assign _, _, _, _, _⟩ :: _) _ _ _; refine awl_pw ?wtq (pv_assign rfl rfl) rfl rfl ?_) | (show AWL _ _ _ (⟨_, .binOp .geq _ _ _ _, _, _, _, _⟩ :: _) _ _ _; refine awl_pw ?wtq (pv_geq rfl rfl rfl) rfl rfl ?_)); case wtq => exact wtA) | refine awl_nil ?_)
    refine body_r (h' := [e]) (.cons rfl .nil) rcA ⟨?_, rfl⟩
    rw [hA, d1]; rfl
theorem call_p {pv : AV} {g : Nat} {fs cs : List AV} {p : ConD → Bool} (cp : Bool) (l : List ConD) (hl : l.length ≤ 1000) (hone : oneA pv = true) (hcal : Tl.Callee pv g fs cs) (hg : T0.fns.any g.beq = true) (hp : ∀ c, c ∈ l → PCall Try.prog g (fs ++ [conA c] ++ cs) (fun x => x = boolA (p c))) :
    PCall Try.prog 197 [.t (consT cp l), pv] (fun r => r = boolA (l.all p)) := by
  refine acall_of_awp T0 Try.func197 rfl rfl rfl ?_
  have hA : (!(List.range l.length).any fun k => !p (l.getD k default)) = l.all p := by
    rw [Bool.eq_iff_iff, all_getD (d := default)]
    simp only [Bool.not_eq_true', List.any_eq_false, List.mem_range, Bool.not_eq_true]
    exact ⟨fun h k hk => by simpa using h k hk, fun h k hk => by rw [h k hk]; decide⟩
  have hok : okA pv = true := by cases pv <;> first | rfl | exact hone
  have hcells : cellsA pv = [pv] := by cases pv <;> first | rfl | cases hone
  repeat (first | refine awp_seq ?_ | refine awp_region_lit rfl ?_)
  refine awl_hw wtA (st_box rfl rfl raA (by first | assumption | (simp only [cellsA]; rfl)) rfl rfl ?_)
  intro g3
  repeat (first | refine awp_seq ?_ | refine awp_region_lit rfl ?_ | ((first | (show AWL _ _ _ (⟨_, .move _, _, _, _, _⟩ :: _) _ _ _; refine awl_pw ?wtq (pv_move rfl rfl) rfl rfl ?_) | (show AWL _ _ _ (⟨_, .assign _, _, _, _, _⟩ :: _) _ _ _; refine awl_pw ?wtq (pv_assign rfl rfl) rfl rfl ?_)); case wtq => exact wtA) | refine awl_nil ?_)
  refine awl_pw (wt_none rfl) (pv_makeFunc_v (fs := []) (cs := [ptrV g3]) rfl rfl rfl) rfl rfl ?_
  skip
  refine awl_hw wtA (st_acall T0 (ccont_p (e := .cl g3 307 [pv]) (q := fun k => !p (l.getD k default)) cp l hl callee_v rfl (fun k hk => ccallp_p (l.getD k default) hone hcal hg (hp _ (getD_mem hk)))) rfl rfl rfl rfl (by first | exact callee_lit | exact callee_v | exact callee_fn | assumption) rcA raA rfl (by first | ((repeat' (first | exact SubH.refl _ | apply SubH.cons | exact Pick.here | apply Pick.there)); all_goals fail) | fail) (fun _ _ => trivial) ?_)
  rintro r h ⟨rfl, rfl⟩
  repeat (first | refine awp_ret ?_ | ((first | (show AWL _ _ _ (⟨_, .assign _, _, _, _, _⟩ :: _) _ _ _; refine awl_pw ?wtq (pv_assign rfl rfl) rfl rfl ?_) | (show AWL _ _ _ (⟨_, .unOp .not _ _, _, _, _, _⟩ :: _) _ _ _; refine awl_pw ?wtq (pv_not rfl rfl) rfl rfl ?_)); case wtq => exact wtA) | refine awl_nil ?_)
  refine body_p (.cons rfl .nil) ?_
  rw [← hA]; rfl
theorem check_p (cp cc : Bool) (m : MktD) (hl : m.hou.length ≤ 1000) (hc : m.con.length ≤ 1000) : PCall Try.prog 155 [mktA cp cc m] (fun r => r = intA (faultN m)) := by
  refine acall_of_awp T0 Try.func155 rfl rfl rfl ?_
  unfold faultN
  repeat (first | refine awp_seq ?_ | refine awp_region_lit rfl ?_)
  refine awl_hw wtA (st_box rfl rfl raA (by first | assumption | (simp only [cellsA]; rfl)) rfl rfl ?_)
  intro g1
  repeat (first | refine awp_seq ?_ | refine awp_region_lit rfl ?_ | ((first | (show AWL _ _ _ (⟨_, .assign _, _, _, _, _⟩ :: _) _ _ _; refine awl_pw ?wtq (pv_assign rfl rfl) rfl rfl ?_) | (show AWL _ _ _ (⟨_, .load _ _, _, _, _, _⟩ :: _) _ _ _; refine awl_lw ?wtq (lv_cla T0 rfl rfl rfl rcA rfl) rfl rfl rfl ?_)); case wtq => exact wtA) | refine awl_nil ?_)
  refine awl_pw (wt_none rfl) (pv_makeFunc_av (fs := [mktA cp cc m]) (cs := []) rfl rfl rfl) rfl rfl ?_
  by_cases h1 : (6 : Int) < m.hou.length
  · have d1 := decide_eq_true h1
    repeat (first | refine awp_seq ?_ | refine awp_block ?_ | refine awp_region_lit rfl ?_ | refine awp_ret ?_ | with_reducible refine then_n ?_ | with_reducible refine then_r ?_ | with_reducible refine blk_r ?_ | refine awp_cond_t rfl (by first | rfl | assumption | exact dT (by omega)) ?_ | ((first | (show AWL _ _ _ (⟨_, .move _, _, _, _, _⟩ :: _) _ _ _; refine awl_pw ?wtq (pv_move rfl rfl) rfl rfl ?_) | (show AWL _ _ _ (⟨_, .assign _, _, _, _, _⟩ :: _) _ _ _; refine awl_pw ?wtq (pv_assign rfl rfl) rfl rfl ?_) | (show AWL _ _ _ (⟨_, .load _ _, _, _, _, _⟩ :: _) _ _ _; refine awl_lw ?wtq (lv_cl1 T0 rfl rfl rfl rcA raA) rfl rfl rfl ?_) | (show AWL _ _ _ (⟨_, .fieldAddr _ _ _, _, _, _, _⟩ :: _) _ _ _; refine awl_pw ?wtq (pv_fa T0 rfl rfl rfl (by simp; rfl)) rfl rfl ?_) | (show AWL _ _ _ (⟨_, .binOp .gtr _ _ _ _, _, _, _, _⟩ :: _) _ _ _; refine awl_pw ?wtq (pv_gtr rfl rfl rfl) rfl rfl ?_) | (show AWL _ _ _ (⟨_, .call ⟨.builtin .len, _, _⟩, _, _, _, _⟩ :: _) _ _ _; refine awl_pw ?wtq (pv_len_t T0 rfl rfl rfl) rfl rfl ?_) | (show AWL _ _ _ (⟨_, .pick _ _ _, _, _, _, _⟩ :: _) _ _ _; refine awl_pw ?wtq (pv_pick_t rfl rfl tfA rfl) rfl rfl ?_)); case wtq => exact wtA) | refine awl_sk (wf_some rfl rfl rfl rfl tfA) rfl rfl ?_ | refine awl_nil ?_)
    refine body_p (.cons rfl .nil) ?_
    rw [if_pos (.inl (by omega))]; rfl
  have d1 := decide_eq_false h1
  by_cases h2 : (8 : Int) < m.con.length
  · have d2 := decide_eq_true h2
    repeat (first | refine awp_seq ?_ | refine awp_block ?_ | refine awp_region_lit rfl ?_ | refine awp_ret ?_ | with_reducible refine then_n ?_ | with_reducible refine then_r ?_ | with_reducible refine blk_r ?_ | refine awp_cond_t rfl (by first | rfl | assumption | exact dT (by omega)) ?_ | ((first | (show AWL _ _ _ (⟨_, .move _, _, _, _, _⟩ :: _) _ _ _; refine awl_pw ?wtq (pv_move rfl rfl) rfl rfl ?_) | (show AWL _ _ _ (⟨_, .assign _, _, _, _, _⟩ :: _) _ _ _; refine awl_pw ?wtq (pv_assign rfl rfl) rfl rfl ?_) | (show AWL _ _ _ (⟨_, .load _ _, _, _, _, _⟩ :: _) _ _ _; refine awl_lw ?wtq (lv_cl1 T0 rfl rfl rfl rcA raA) rfl rfl rfl ?_) | (show AWL _ _ _ (⟨_, .fieldAddr _ _ _, _, _, _, _⟩ :: _) _ _ _; refine awl_pw ?wtq (pv_fa T0 rfl rfl rfl (by simp; rfl)) rfl rfl ?_) | (show AWL _ _ _ (⟨_, .binOp .gtr _ _ _ _, _, _, _, _⟩ :: _) _ _ _; refine awl_pw ?wtq (pv_gtr rfl rfl rfl) rfl rfl ?_) | (show AWL _ _ _ (⟨_, .call ⟨.builtin .len, _, _⟩, _, _, _, _⟩ :: _) _ _ _; refine awl_pw ?wtq (pv_len_t T0 rfl rfl rfl) rfl rfl ?_) | (show AWL _ _ _ (⟨_, .pick _ _ _, _, _, _, _⟩ :: _) _ _ _; refine awl_pw ?wtq (pv_pick_f rfl rfl tfA rfl) rfl rfl ?_)); case wtq => exact wtA) | refine awl_nil ?_)
    refine body_p (.cons rfl .nil) ?_
    rw [if_pos (.inr (by omega))]; rfl
  have d2 := decide_eq_false h2
  rw [if_neg (by omega)]
  cases e3 : inB m.ex 1 200
  · repeat (first | refine awp_seq ?_ | refine awp_block ?_ | refine awp_region_lit rfl ?_ | with_reducible refine then_n ?_ | refine awp_cond_f rfl (by first | rfl | assumption | exact dF (by omega)) ?_ | ((first | (show AWL _ _ _ (⟨_, .move _, _, _, _, _⟩ :: _) _ _ _; refine awl_pw ?wtq (pv_move rfl rfl) rfl rfl ?_) | (show AWL _ _ _ (⟨_, .assign _, _, _, _, _⟩ :: _) _ _ _; refine awl_pw ?wtq (pv_assign rfl rfl) rfl rfl ?_) | (show AWL _ _ _ (⟨_, .load _ _, _, _, _, _⟩ :: _) _ _ _; refine awl_lw ?wtq (lv_cl1 T0 rfl rfl rfl rcA raA) rfl rfl rfl ?_) | (show AWL _ _ _ (⟨_, .fieldAddr _ _ _, _, _, _, _⟩ :: _) _ _ _; refine awl_pw ?wtq (pv_fa T0 rfl rfl rfl (by simp; rfl)) rfl rfl ?_) | (show AWL _ _ _ (⟨_, .binOp .gtr _ _ _ _, _, _, _, _⟩ :: _) _ _ _; refine awl_pw ?wtq (pv_gtr rfl rfl rfl) rfl rfl ?_) | (show AWL _ _ _ (⟨_, .call ⟨.builtin .len, _, _⟩, _, _, _, _⟩ :: _) _ _ _; refine awl_pw ?wtq (pv_len_t T0 rfl rfl rfl) rfl rfl ?_) | (show AWL _ _ _ (⟨_, .pick _ _ _, _, _, _, _⟩ :: _) _ _ _; refine awl_pw ?wtq (pv_pick_f rfl rfl tfA rfl) rfl rfl ?_)); case wtq => exact wtA) | refine awl_nil ?_)
    refine awl_hw wtA (st_call T0 (within_q e3) rfl rfl rfl rfl (by first | exact callee_lit | exact callee_v | exact callee_fn | assumption) rcA raA rfl ?_)
    rintro _ rfl
    repeat (first | refine awp_seq ?_ | refine awp_region_lit rfl ?_ | refine awp_ret ?_ | with_reducible refine then_n ?_ | with_reducible refine then_r ?_ | with_reducible refine blk_r ?_ | refine awp_cond_t rfl (by first | rfl | assumption | exact dT (by omega)) ?_ | ((first | (show AWL _ _ _ (⟨_, .move _, _, _, _, _⟩ :: _) _ _ _; refine awl_pw ?wtq (pv_move rfl rfl) rfl rfl ?_) | (show AWL _ _ _ (⟨_, .assign _, _, _, _, _⟩ :: _) _ _ _; refine awl_pw ?wtq (pv_assign rfl rfl) rfl rfl ?_) | (show AWL _ _ _ (⟨_, .fieldAddr _ _ _, _, _, _, _⟩ :: _) _ _ _; refine awl_pw ?wtq (pv_fa T0 rfl rfl rfl (by simp; rfl)) rfl rfl ?_) | (show AWL _ _ _ (⟨_, .unOp .not _ _, _, _, _, _⟩ :: _) _ _ _; refine awl_pw ?wtq (pv_not rfl rfl) rfl rfl ?_) | (show AWL _ _ _ (⟨_, .pick _ _ _, _, _, _, _⟩ :: _) _ _ _; refine awl_pw ?wtq (pv_pick_t rfl rfl tfA rfl) rfl rfl ?_)); case wtq => exact wtA) | refine awl_sk (wf_some rfl rfl rfl rfl tfA) rfl rfl ?_ | refine awl_nil ?_)
    refine body_p (.cons rfl .nil) ?_
    rw [if_neg (by simp)]; rfl
  repeat (first | refine awp_seq ?_ | refine awp_block ?_ | refine awp_region_lit rfl ?_ | with_reducible refine then_n ?_ | refine awp_cond_f rfl (by first | rfl | assumption | exact dF (by omega)) ?_ | ((first | (show AWL _ _ _ (⟨_, .move _, _, _, _, _⟩ :: _) _ _ _; refine awl_pw ?wtq (pv_move rfl rfl) rfl rfl ?_) | (show AWL _ _ _ (⟨_, .assign _, _, _, _, _⟩ :: _) _ _ _; refine awl_pw ?wtq (pv_assign rfl rfl) rfl rfl ?_) | (show AWL _ _ _ (⟨_, .load _ _, _, _, _, _⟩ :: _) _ _ _; refine awl_lw ?wtq (lv_cl1 T0 rfl rfl rfl rcA raA) rfl rfl rfl ?_) | (show AWL _ _ _ (⟨_, .fieldAddr _ _ _, _, _, _, _⟩ :: _) _ _ _; refine awl_pw ?wtq (pv_fa T0 rfl rfl rfl (by simp; rfl)) rfl rfl ?_) | (show AWL _ _ _ (⟨_, .binOp .gtr _ _ _ _, _, _, _, _⟩ :: _) _ _ _; refine awl_pw ?wtq (pv_gtr rfl rfl rfl) rfl rfl ?_) | (show AWL _ _ _ (⟨_, .call ⟨.builtin .len, _, _⟩, _, _, _, _⟩ :: _) _ _ _; refine awl_pw ?wtq (pv_len_t T0 rfl rfl rfl) rfl rfl ?_) | (show AWL _ _ _ (⟨_, .pick _ _ _, _, _, _, _⟩ :: _) _ _ _; refine awl_pw ?wtq (pv_pick_f rfl rfl tfA rfl) rfl rfl ?_)); case wtq => exact wtA) | refine awl_nil ?_)
  refine awl_hw wtA (st_call T0 (within_q e3) rfl rfl rfl rfl (by first | exact callee_lit | exact callee_v | exact callee_fn | assumption) rcA raA rfl ?_)
  rintro _ rfl
  by_cases h4 : (m.hou.length : Int) = 0
  · have d4 := decide_eq_true h4
    repeat (first | refine awp_seq ?_ | refine awp_region_lit rfl ?_ | refine awp_ret ?_ | with_reducible refine then_n ?_ | with_reducible refine then_r ?_ | with_reducible refine blk_r ?_ | refine awp_cond_t rfl (by first | rfl | assumption | exact dT (by omega)) ?_ | ((first | (show AWL _ _ _ (⟨_, .move _, _, _, _, _⟩ :: _) _ _ _; refine awl_pw ?wtq (pv_move rfl rfl) rfl rfl ?_) | (show AWL _ _ _ (⟨_, .assign _, _, _, _, _⟩ :: _) _ _ _; refine awl_pw ?wtq (pv_assign rfl rfl) rfl rfl ?_) | (show AWL _ _ _ (⟨_, .load _ _, _, _, _, _⟩ :: _) _ _ _; refine awl_lw ?wtq (lv_cl1 T0 rfl rfl rfl rcA raA) rfl rfl rfl ?_) | (show AWL _ _ _ (⟨_, .fieldAddr _ _ _, _, _, _, _⟩ :: _) _ _ _; refine awl_pw ?wtq (pv_fa T0 rfl rfl rfl (by simp; rfl)) rfl rfl ?_) | (show AWL _ _ _ (⟨_, .binOp .eql _ _ _ _, _, _, _, _⟩ :: _) _ _ _; refine awl_pw ?wtq (pv_eql rfl rfl rfl) rfl rfl ?_) | (show AWL _ _ _ (⟨_, .call ⟨.builtin .len, _, _⟩, _, _, _, _⟩ :: _) _ _ _; refine awl_pw ?wtq (pv_len_t T0 rfl rfl rfl) rfl rfl ?_) | (show AWL _ _ _ (⟨_, .unOp .not _ _, _, _, _, _⟩ :: _) _ _ _; refine awl_pw ?wtq (pv_not rfl rfl) rfl rfl ?_) | (show AWL _ _ _ (⟨_, .pick _ _ _, _, _, _, _⟩ :: _) _ _ _; refine awl_pw ?wtq (pv_pick_t rfl rfl tfA rfl) rfl rfl ?_) | (show AWL _ _ _ (⟨_, .pick _ _ _, _, _, _, _⟩ :: _) _ _ _; refine awl_pw ?wtq (pv_pick_f rfl rfl tfA rfl) rfl rfl ?_)); case wtq => exact wtA) | refine awl_sk (wf_some rfl rfl rfl rfl tfA) rfl rfl ?_ | refine awl_nil ?_)
    refine body_p (.cons rfl .nil) ?_
    rw [if_neg (fun h => h.1.2 (by omega))]; rfl
  have d4 := decide_eq_false h4
  repeat (first | ((first | (show AWL _ _ _ (⟨_, .move _, _, _, _, _⟩ :: _) _ _ _; refine awl_pw ?wtq (pv_move rfl rfl) rfl rfl ?_) | (show AWL _ _ _ (⟨_, .load _ _, _, _, _, _⟩ :: _) _ _ _; refine awl_lw ?wtq (lv_cl1 T0 rfl rfl rfl rcA raA) rfl rfl rfl ?_) | (show AWL _ _ _ (⟨_, .fieldAddr _ _ _, _, _, _, _⟩ :: _) _ _ _; refine awl_pw ?wtq (pv_fa T0 rfl rfl rfl (by simp; rfl)) rfl rfl ?_) | (show AWL _ _ _ (⟨_, .binOp .eql _ _ _ _, _, _, _, _⟩ :: _) _ _ _; refine awl_pw ?wtq (pv_eql rfl rfl rfl) rfl rfl ?_) | (show AWL _ _ _ (⟨_, .call ⟨.builtin .len, _, _⟩, _, _, _, _⟩ :: _) _ _ _; refine awl_pw ?wtq (pv_len_t T0 rfl rfl rfl) rfl rfl ?_) | (show AWL _ _ _ (⟨_, .unOp .not _ _, _, _, _, _⟩ :: _) _ _ _; refine awl_pw ?wtq (pv_not rfl rfl) rfl rfl ?_) | (show AWL _ _ _ (⟨_, .pick _ _ _, _, _, _, _⟩ :: _) _ _ _; refine awl_pw ?wtq (pv_pick_f rfl rfl tfA rfl) rfl rfl ?_)); case wtq => exact wtA))
  cases ha : m.hou.all houB
  · refine awl_hw wtA (st_call T0 ((hall_p (pv := .v (.func (.func 196) #[] #[])) (g := 196) (fs := []) (cs := []) (p := houB) cp m.hou hl rfl (callee_v (a := []) (b := [])) rfl (fun c _ => valid_p c))) rfl rfl rfl rfl (by first | exact callee_lit | exact callee_v | exact callee_fn | assumption) rcA raA rfl ?_)
    (rintro r rfl; rw [ha])
    repeat (first | refine awp_seq ?_ | refine awp_region_lit rfl ?_ | refine awp_ret ?_ | with_reducible refine then_n ?_ | with_reducible refine then_r ?_ | with_reducible refine blk_r ?_ | refine awp_cond_t rfl (by first | rfl | assumption | exact dT (by omega)) ?_ | ((first | (show AWL _ _ _ (⟨_, .move _, _, _, _, _⟩ :: _) _ _ _; refine awl_pw ?wtq (pv_move rfl rfl) rfl rfl ?_) | (show AWL _ _ _ (⟨_, .assign _, _, _, _, _⟩ :: _) _ _ _; refine awl_pw ?wtq (pv_assign rfl rfl) rfl rfl ?_) | (show AWL _ _ _ (⟨_, .fieldAddr _ _ _, _, _, _, _⟩ :: _) _ _ _; refine awl_pw ?wtq (pv_fa T0 rfl rfl rfl (by simp; rfl)) rfl rfl ?_) | (show AWL _ _ _ (⟨_, .unOp .not _ _, _, _, _, _⟩ :: _) _ _ _; refine awl_pw ?wtq (pv_not rfl rfl) rfl rfl ?_) | (show AWL _ _ _ (⟨_, .pick _ _ _, _, _, _, _⟩ :: _) _ _ _; refine awl_pw ?wtq (pv_pick_t rfl rfl tfA rfl) rfl rfl ?_) | (show AWL _ _ _ (⟨_, .pick _ _ _, _, _, _, _⟩ :: _) _ _ _; refine awl_pw ?wtq (pv_pick_f rfl rfl tfA rfl) rfl rfl ?_)); case wtq => exact wtA) | refine awl_sk (wf_some rfl rfl rfl rfl tfA) rfl rfl ?_ | refine awl_nil ?_)
    refine body_p (.cons rfl .nil) ?_
    rw [if_neg (by simp)]; rfl
  refine awl_hw wtA (st_call T0 ((hall_p (pv := .v (.func (.func 196) #[] #[])) (g := 196) (fs := []) (cs := []) (p := houB) cp m.hou hl rfl (callee_v (a := []) (b := [])) rfl (fun c _ => valid_p c))) rfl rfl rfl rfl (by first | exact callee_lit | exact callee_v | exact callee_fn | assumption) rcA raA rfl ?_)
  (rintro r rfl; rw [ha])
  repeat (first | ((first | (show AWL _ _ _ (⟨_, .move _, _, _, _, _⟩ :: _) _ _ _; refine awl_pw ?wtq (pv_move rfl rfl) rfl rfl ?_) | (show AWL _ _ _ (⟨_, .load _ _, _, _, _, _⟩ :: _) _ _ _; refine awl_lw ?wtq (lv_cl1 T0 rfl rfl rfl rcA raA) rfl rfl rfl ?_) | (show AWL _ _ _ (⟨_, .fieldAddr _ _ _, _, _, _, _⟩ :: _) _ _ _; refine awl_pw ?wtq (pv_fa T0 rfl rfl rfl (by simp; rfl)) rfl rfl ?_) | (show AWL _ _ _ (⟨_, .unOp .not _ _, _, _, _, _⟩ :: _) _ _ _; refine awl_pw ?wtq (pv_not rfl rfl) rfl rfl ?_) | (show AWL _ _ _ (⟨_, .pick _ _ _, _, _, _, _⟩ :: _) _ _ _; refine awl_pw ?wtq (pv_pick_f rfl rfl tfA rfl) rfl rfl ?_)); case wtq => exact wtA))
  cases hb : m.con.all (conB m.hou.length)
  · refine awl_hw wtA (st_call T0 ((call_p (p := conB m.hou.length) cc m.con hc rfl callee_fn rfl (fun c _ => contract_p cp cc m c hl))) rfl rfl rfl rfl (by first | exact callee_lit | exact callee_v | exact callee_fn | assumption) rcA raA rfl ?_)
    (rintro r rfl; rw [hb])
    repeat (first | refine awp_seq ?_ | refine awp_region_lit rfl ?_ | refine awp_ret ?_ | with_reducible refine then_n ?_ | with_reducible refine then_r ?_ | with_reducible refine blk_r ?_ | refine awp_cond_t rfl (by first | rfl | assumption | exact dT (by omega)) ?_ | ((first | (show AWL _ _ _ (⟨_, .assign _, _, _, _, _⟩ :: _) _ _ _; refine awl_pw ?wtq (pv_assign rfl rfl) rfl rfl ?_) | (show AWL _ _ _ (⟨_, .unOp .not _ _, _, _, _, _⟩ :: _) _ _ _; refine awl_pw ?wtq (pv_not rfl rfl) rfl rfl ?_) | (show AWL _ _ _ (⟨_, .pick _ _ _, _, _, _, _⟩ :: _) _ _ _; refine awl_pw ?wtq (pv_pick_f rfl rfl tfA rfl) rfl rfl ?_)); case wtq => exact wtA) | refine awl_nil ?_)
    refine body_p (.cons rfl .nil) ?_
    rw [if_neg (by simp)]; rfl
  · refine awl_hw wtA (st_call T0 ((call_p (p := conB m.hou.length) cc m.con hc rfl callee_fn rfl (fun c _ => contract_p cp cc m c hl))) rfl rfl rfl rfl (by first | exact callee_lit | exact callee_v | exact callee_fn | assumption) rcA raA rfl ?_)
    (rintro r rfl; rw [hb])
    repeat (first | refine awp_seq ?_ | refine awp_region_lit rfl ?_ | refine awp_skip ?_ | refine awp_ret ?_ | with_reducible refine then_n ?_ | refine awp_cond_f rfl (by first | rfl | assumption | exact dF (by omega)) ?_ | ((first | (show AWL _ _ _ (⟨_, .assign _, _, _, _, _⟩ :: _) _ _ _; refine awl_pw ?wtq (pv_assign rfl rfl) rfl rfl ?_) | (show AWL _ _ _ (⟨_, .unOp .not _ _, _, _, _, _⟩ :: _) _ _ _; refine awl_pw ?wtq (pv_not rfl rfl) rfl rfl ?_) | (show AWL _ _ _ (⟨_, .pick _ _ _, _, _, _, _⟩ :: _) _ _ _; refine awl_pw ?wtq (pv_pick_f rfl rfl tfA rfl) rfl rfl ?_)); case wtq => exact wtA) | refine awl_nil ?_)
    refine body_p (.cons rfl .nil) ?_
    rw [if_pos ⟨⟨rfl, by omega⟩, rfl, rfl⟩]; rfl
end Go.Proofs.Ytlpknbneilgjkaa.C
