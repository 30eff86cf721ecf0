/- The law RingRings: its walk. -/
import Derived.Test.YtilhflfbbfeakaaZlGSk
import Derived.Test.YtilhflfbbfeakaaZlGTs
import Derived.Test.YtilhflfbbfeakaaTz
namespace Go.Proofs.Ytilhflfbbfeakaa
open Go Go.RowKit Go.Tl
set_option linter.unusedVariables false
set_option linter.unusedSimpArgs false
set_option maxRecDepth 100000
set_option maxHeartbeats 4000000
structure RingsF (b : BookD) (rs : List RingD) (hs : List Int) : Prop where
  gr : GrFacts b (madeL b rs) hs
  all : rs.all (ringB b) = true
  len : rs.length ≤ b.cons.length
  cl : ∀ j, j < rs.length → (rs.getD j default).cons.length ≤ 1000
  listed : listedB b (madeL b rs) = true
theorem rings_facts {b : BookD} (hv : VBook b) {rs : List RingD} {f : Nat → Int} (h : RingsOk b rs f) : RingsF b rs (hgtL b f) := by
  have hh := hv.houses
  have hm : madeL b rs = (List.range b.cons.length).map f := List.map_congr_left fun i hi => h.made i (List.mem_range.1 hi)
  have hg : isGr b (madeL b rs) (hgtL b f) := ⟨f, h.off, h.stuck, hm, rfl⟩
  have hG := gr_facts hv hg
  refine ⟨hG, (all_getD (d := default)).2 fun j hj => ringB_iff.2 (h.ring j hj), h.len, fun j hj => ?_, ?_⟩
  · have := ring_len hv (h.ring j hj); omega
  · have := hG.isoff
    unfold offB at this
    exact (Bool.and_eq_true_iff.1 this).1
attribute [local irreducible] AWP AWL AOp PV LV AWT AWE
section
variable {rs : List RingD} {cp c1 : Bool} {k : Nat} {a : Option Addr} {c : Nat} {rows : List (List AV)}
end
end Go.Proofs.Ytilhflfbbfeakaa
