/- The law RingFewest: its walk. -/
import Derived.Test.YtilhflfbbfeakaaZmFb
import Derived.Test.YtilhflfbbfeakaaZmDc
import Derived.Test.YtilhflfbbfeakaaTz
namespace Go.Proofs.Ytilhflfbbfeakaa
open Go Go.RowKit Go.Tl
set_option linter.unusedVariables false
set_option linter.unusedSimpArgs false
set_option maxRecDepth 100000
set_option maxHeartbeats 4000000
theorem ext_at {n : Int} {s : List Int} (h : Ext n s 0) {i : Nat} (hi : i < s.length) : 0 ≤ s.getD i 0 ∧ s.getD i 0 < n := (ext_iff.1 h).1 _ (getD_mem hi)
theorem ext_len {n : Nat} {s : List Int} (h : Ext n s 0) : s.length ≤ n := by
  cases s with
  | nil => simp
  | cons x t =>
    have h1 := ext_room h
    have h2 := (ext_cons.1 h).1
    simp only [List.length_cons]
    omega
attribute [local irreducible] AWP AWL AOp PV LV AWT AWE
end Go.Proofs.Ytilhflfbbfeakaa
