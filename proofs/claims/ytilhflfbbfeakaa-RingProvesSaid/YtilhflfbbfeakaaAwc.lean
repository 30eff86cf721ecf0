/- Joining ways within a region. -/
import Derived.Test.YtilhflfbbfeakaaTz
namespace Go.Tl
open Go Go.RowKit
set_option linter.unusedVariables false
set_option linter.unusedSimpArgs false
theorem wpX_mono2 {P : Program} {o : Oper} {a : Act} {w : World} {K K' : Act → World → Prop} {Q Q' : Exit → Act → World → Prop} (h : ∀ a w, K a w → K' a w) (hq : ∀ e a w, Q e a w → Q' e a w) (hh : wpX P o a w K Q) : wpX P o a w K' Q' := by
  unfold wpX at *
  generalize (execOp a.eval o).run P w = r at *
  cases r with
  | ok x w' =>
    cases x <;> simp only [Oper.uponIn] at hh ⊢ <;>
      first
        | exact h _ _ hh
        | exact hq _ _ _ hh
        | exact ⟨hh.1, CallsIn.mono hh.2 (fun e w'' he => by cases e <;> first | exact h _ _ he | exact hq _ _ _ he | exact ⟨he.choose, he.choose_spec.choose, hq _ _ _ he.choose_spec.choose_spec⟩ | exact he)⟩
        | exact ⟨hh.1, RowsIn.mono hh.2 (fun _ _ he => h _ _ he)⟩
        | exact ⟨hh.1, RoundIn.mono hh.2 (fun e w'' he => by cases e <;> first | exact h _ _ he | exact hq _ _ _ he | exact ⟨he.choose, he.choose_spec.choose, hq _ _ _ he.choose_spec.choose_spec⟩ | exact he)⟩
        | exact hh
  | halt x w' => cases x <;> simp only [Oper.uponIn] at hh ⊢ <;> first | exact hh | exact hq _ _ _ hh
theorem wpLX_mono {P : Program} {ops : Array Oper} {Q Q' : Exit → Act → World → Prop} (hq : ∀ e a w, Q e a w → Q' e a w) : ∀ (l : List Oper) (a : Act) (w : World), wpLX P ops Q l a w → wpLX P ops Q' l a w
  | [], a, w, h => hq _ _ _ h
  | o :: rest, a, w, h => by
    simp only [wpLX] at h ⊢
    split
    · rename_i c
      rw [if_pos c] at h
      exact wpX_mono2 (fun a w h => wpLX_mono hq rest a w h) hq h
    · rename_i c
      rw [if_neg c] at h
      exact wpLX_mono hq rest _ w h
theorem awl_mono {P : Program} {N : Nat} {ops : Array Oper} {l : List Oper} {Q Q' : Exit → Slots → List Ent → Prop} {s : Slots} {h : List Ent} (hq : ∀ s' h', Q .normal s' h' → Q' .normal s' h') (H : AWL P N ops l Q s h) : AWL P N ops l Q' s h := fun B w S a hs =>
  wpLX_mono (fun e a' w' ⟨he, S', s', h', h1, h2⟩ => by subst he; exact ⟨rfl, S', s', h', hq _ _ h1, h2⟩) l a w (H B w S a hs)
theorem awl_cut {P : Program} {N : Nat} {ro : Option Nat} {ops : Array Oper} {l : List Oper} {y : Code} {Q Q' : Exit → Slots → List Ent → Prop} {s : Slots} {h : List Ent} (M : Slots → List Ent → Prop) (H1 : AWL P N ops l (cutQ M) s h) (H2 : ∀ s' h', M s' h' → AWP P N ro y Q s' h') : AWL P N ops l (thenQ (AWP P N ro y Q) Q') s h :=
  awl_mono (fun s1 h1 ⟨_, s', h', hs, hh, hM⟩ => awp_weak hs hh (H2 s' h' hM)) H1
theorem pv_eqlb {P : Program} {o : Oper} {s : Slots} {t t' : TypeId} {x z : Operand} {a b : Bool} (ho : o.op = .binOp .eql t x z t') (hx : evA s x = some (.v (.bool a))) (hz : evA s z = some (.v (.bool b))) (hu : P.underlying t = some .bool) : PV P o s (.v (.bool (a == b))) :=
  pv_bin ho hx hz (fun w => by
    have h := run_equal_bool (P := P) (w := w) t a b hu
    simp [eqGuard, binOp, h])
end Go.Tl
