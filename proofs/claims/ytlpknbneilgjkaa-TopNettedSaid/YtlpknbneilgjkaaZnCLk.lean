/- Joined texts: CGIa, CLk. -/
import Derived.Test.YtlpknbneilgjkaaZnRFr
import Derived.Test.YtlpknbneilgjkaaZnGTs
import Derived.Test.YtlpknbneilgjkaaZnCGWk
import Derived.Test.YtlpknbneilgjkaaTlp
import Derived.ChangeKeysEq
import Derived.Test.YtlpknbneilgjkaaZnCCa
section
section
namespace Go.Proofs.Ytlpknbneilgjkaa.C
open Go Go.RowKit Go.Tl
set_option linter.unusedVariables false
set_option linter.unusedSimpArgs false
set_option maxRecDepth 100000
set_option maxHeartbeats 4000000
attribute [local irreducible] AWP AWL AOp PV LV AWT AWE
theorem thin_q {ct : Bool} {m : MktD} {t : List Int} {r : Bool} (hl : m.hou.length ≤ 9223372036854775807) (hc : m.con.length ≤ 9223372036854775807) (ht : t.length ≤ 9223372036854775807) (h : (decide (m.hou.length ≤ 9) && decide (m.con.length ≤ 11) && decide (t.length ≤ 9)) = r) : PCall Try.prog 32 [mktA false false m, .t (intsT ct t)] (fun x => x = boolA r) := by
  subst h
  refine acall_of_awp T0 Try.func32 rfl rfl rfl ?_
  have e1 : decide ((m.hou.length : Int) ≤ 9) = decide (m.hou.length ≤ 9) := decide_eq_decide.2 (by omega)
  have e2 : decide ((m.con.length : Int) ≤ 11) = decide (m.con.length ≤ 11) := decide_eq_decide.2 (by omega)
  have e3 : decide ((t.length : Int) ≤ 9) = decide (t.length ≤ 9) := decide_eq_decide.2 (by omega)
  cases c1 : decide (m.hou.length ≤ 9)
  · rw [c1] at e1
    repeat (first | refine awp_seq ?_ | refine awp_region_lit rfl ?_)
    refine awl_hw wtA (st_box rfl rfl raA (by first | assumption | (simp only [cellsA]; rfl)) rfl rfl ?_)
    intro g2
    repeat (first | refine awp_seq ?_ | refine awp_region_lit rfl ?_ | refine awp_ret ?_ | ((first | (show AWL _ _ _ (⟨_, .move _, _, _, _, _⟩ :: _) _ _ _; refine awl_pw ?wtq (pv_move rfl rfl) rfl rfl ?_) | (show AWL _ _ _ (⟨_, .assign _, _, _, _, _⟩ :: _) _ _ _; refine awl_pw ?wtq (pv_assign rfl rfl) rfl rfl ?_) | (show AWL _ _ _ (⟨_, .load _ _, _, _, _, _⟩ :: _) _ _ _; refine awl_lw ?wtq (lv_cl1 T0 rfl rfl rfl rcA raA) rfl rfl rfl ?_) | (show AWL _ _ _ (⟨_, .fieldAddr _ _ _, _, _, _, _⟩ :: _) _ _ _; refine awl_pw ?wtq (pv_fa T0 rfl rfl rfl (by simp; rfl)) rfl rfl ?_) | (show AWL _ _ _ (⟨_, .binOp .leq _ _ _ _, _, _, _, _⟩ :: _) _ _ _; refine awl_pw ?wtq (pv_leq rfl rfl rfl) rfl rfl ?_) | (show AWL _ _ _ (⟨_, .call ⟨.builtin .len, _, _⟩, _, _, _, _⟩ :: _) _ _ _; refine awl_pw ?wtq (pv_len_t T0 rfl rfl rfl) rfl rfl ?_) | (show AWL _ _ _ (⟨_, .pick _ _ _, _, _, _, _⟩ :: _) _ _ _; refine awl_pw ?wtq (pv_pick_f rfl rfl tfA rfl) rfl rfl ?_)); case wtq => exact wtA) | refine awl_sk (wf_some rfl rfl rfl rfl tfA) rfl rfl ?_ | refine awl_nil ?_)
    exact body_p (.cons rfl .nil) rfl
  · rw [c1] at e1
    cases c2 : decide (m.con.length ≤ 11)
    · rw [c2] at e2
      repeat (first | refine awp_seq ?_ | refine awp_region_lit rfl ?_)
      refine awl_hw wtA (st_box rfl rfl raA (by first | assumption | (simp only [cellsA]; rfl)) rfl rfl ?_)
      intro g2
      repeat (first | refine awp_seq ?_ | refine awp_region_lit rfl ?_ | refine awp_ret ?_ | ((first | (show AWL _ _ _ (⟨_, .move _, _, _, _, _⟩ :: _) _ _ _; refine awl_pw ?wtq (pv_move rfl rfl) rfl rfl ?_) | (show AWL _ _ _ (⟨_, .assign _, _, _, _, _⟩ :: _) _ _ _; refine awl_pw ?wtq (pv_assign rfl rfl) rfl rfl ?_) | (show AWL _ _ _ (⟨_, .load _ _, _, _, _, _⟩ :: _) _ _ _; refine awl_lw ?wtq (lv_cl1 T0 rfl rfl rfl rcA raA) rfl rfl rfl ?_) | (show AWL _ _ _ (⟨_, .fieldAddr _ _ _, _, _, _, _⟩ :: _) _ _ _; refine awl_pw ?wtq (pv_fa T0 rfl rfl rfl (by simp; rfl)) rfl rfl ?_) | (show AWL _ _ _ (⟨_, .binOp .leq _ _ _ _, _, _, _, _⟩ :: _) _ _ _; refine awl_pw ?wtq (pv_leq rfl rfl rfl) rfl rfl ?_) | (show AWL _ _ _ (⟨_, .call ⟨.builtin .len, _, _⟩, _, _, _, _⟩ :: _) _ _ _; refine awl_pw ?wtq (pv_len_t T0 rfl rfl rfl) rfl rfl ?_) | (show AWL _ _ _ (⟨_, .pick _ _ _, _, _, _, _⟩ :: _) _ _ _; refine awl_pw ?wtq (pv_pick_t rfl rfl tfA rfl) rfl rfl ?_) | (show AWL _ _ _ (⟨_, .pick _ _ _, _, _, _, _⟩ :: _) _ _ _; refine awl_pw ?wtq (pv_pick_f rfl rfl tfA rfl) rfl rfl ?_)); case wtq => exact wtA) | refine awl_sk (wf_some rfl rfl rfl rfl tfA) rfl rfl ?_ | refine awl_nil ?_)
      exact body_p (.cons rfl .nil) rfl
    · rw [c2] at e2
      repeat (first | refine awp_seq ?_ | refine awp_region_lit rfl ?_)
      refine awl_hw wtA (st_box rfl rfl raA (by first | assumption | (simp only [cellsA]; rfl)) rfl rfl ?_)
      intro g2
      repeat (first | refine awp_seq ?_ | refine awp_region_lit rfl ?_ | refine awp_ret ?_ | ((first | (show AWL _ _ _ (⟨_, .move _, _, _, _, _⟩ :: _) _ _ _; refine awl_pw ?wtq (pv_move rfl rfl) rfl rfl ?_) | (show AWL _ _ _ (⟨_, .assign _, _, _, _, _⟩ :: _) _ _ _; refine awl_pw ?wtq (pv_assign rfl rfl) rfl rfl ?_) | (show AWL _ _ _ (⟨_, .load _ _, _, _, _, _⟩ :: _) _ _ _; refine awl_lw ?wtq (lv_cl1 T0 rfl rfl rfl rcA raA) rfl rfl rfl ?_) | (show AWL _ _ _ (⟨_, .fieldAddr _ _ _, _, _, _, _⟩ :: _) _ _ _; refine awl_pw ?wtq (pv_fa T0 rfl rfl rfl (by simp; rfl)) rfl rfl ?_) | (show AWL _ _ _ (⟨_, .binOp .leq _ _ _ _, _, _, _, _⟩ :: _) _ _ _; refine awl_pw ?wtq (pv_leq rfl rfl rfl) rfl rfl ?_) | (show AWL _ _ _ (⟨_, .call ⟨.builtin .len, _, _⟩, _, _, _, _⟩ :: _) _ _ _; refine awl_pw ?wtq (pv_len_t T0 rfl rfl rfl) rfl rfl ?_) | (show AWL _ _ _ (⟨_, .pick _ _ _, _, _, _, _⟩ :: _) _ _ _; refine awl_pw ?wtq (pv_pick_t rfl rfl tfA rfl) rfl rfl ?_)); case wtq => exact wtA) | refine awl_nil ?_)
      refine body_p (.cons rfl .nil) ?_
      rw [e3]
      rfl
end Go.Proofs.Ytlpknbneilgjkaa.C
end
section
namespace Go.Proofs.Ytlpknbneilgjkaa.C
open Go Go.RowKit Go.Tl
set_option linter.unusedVariables false
set_option linter.unusedSimpArgs false
set_option maxRecDepth 100000
set_option maxHeartbeats 4000000
attribute [local irreducible] AWP AWL AOp PV LV AWT AWE
end Go.Proofs.Ytlpknbneilgjkaa.C
end
section
namespace Go.Proofs.Ytlpknbneilgjkaa.C
open Go Go.RowKit Go.Tl
set_option linter.unusedVariables false
set_option linter.unusedSimpArgs false
set_option maxRecDepth 100000
set_option maxHeartbeats 4000000
attribute [local irreducible] AWP AWL AOp PV LV AWT AWE
section
variable {g2 k : Nat} {cp cc ct : Bool} {m : MktD} {t : List Int} {n5 : Int} {r : Bool}
end
end Go.Proofs.Ytlpknbneilgjkaa.C
end
end
section
namespace Go.Proofs.Ytlpknbneilgjkaa.C
open Go Go.RowKit Go.Tl
set_option linter.unusedVariables false
set_option linter.unusedSimpArgs false
set_option maxRecDepth 100000
set_option maxHeartbeats 4000000
theorem acall_args {P : Program} {f : Nat} {args args' : List AV} {hc : List Ent} {Q : AV → List Ent → Prop} (C : ACall P f args' hc Q) (H : AVsLe args args') : ACall P f args hc Q := fun w S vs h1 h2 h3 => C w S vs h1 h2 (H.rels h3)
attribute [local irreducible] AWP AWL AOp PV LV AWT AWE
end Go.Proofs.Ytlpknbneilgjkaa.C
end
