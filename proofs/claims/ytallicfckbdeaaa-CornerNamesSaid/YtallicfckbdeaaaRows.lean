/-
  No cell of these rows narrows 'for every input' (looked for: loops, veiled, ifaces, maps, wideKeys, modest, calm, conditions, laid).
  DERIVED. THE GIVEN ROWS OF THIS SEAT. 14 by the template 'for every input the law returns true; each argument reads behind the call as it read before'; 0 by the template 'total and deterministic' (their statements: YtallicfckbdeaaaTotals.lean).
  GIVEN WITH THE SEED: the statements are not yours to turn. If you find one false, say at which input.
  Laid BY PROGRAM, IN A SANDBOX (cutbox-rows.mjs): the forced cells as the released guide's own fill.sh prints them over the translation d69d511f51e4a115… (all of the seat's roots in one cut). By AI agents, Wed Nov 11 2026. No macro, syntax, notation, axiom, sorry.
-/
import Derived.Test.YtallicfckbdeaaaChecked
import GoSem.Claim
import GoSem.ClaimJoined
import GoSem.ClaimMapViews
import Derived.JoinedTies
import Derived.KernelRfl
namespace Go.Proofs.Ytallicfckbdeaaa
/- THE CELL 'sum', in the pinned program and in every row, IS THE sha256 OF THE DUMP (.gsa) THAT YtallicfckbdeaaaProg.lean LOADS. Nothing in Lean hashes anything: it is a label: what it is worth is what the hold of that sum in a sandbox is worth. -/
noncomputable def Try.pinned : Pinned := { name := "ytallicfckbdeaaa", sum := "d69d511f51e4a11570b487ed58b853dd35869f980c2a072be0822603cde6b7ad", checked := Try.checked }
namespace Rows
def none {H : Type} : Left H := { results := [], args := [] }

/-- 'contangolaw11.CornerNeeds': WHATEVER THE INPUT: true; the input reads as it did. -/
def cornerNeedsSpec : ChangeSpec := { name := "cornerNeeds", fn := fun _ => fun
  | [d1, d2] => { results := [.lit (.bool true)], args := [d1, d2] }
  | _ => none }
def cornerNeedsRow : OpenClaim := { program := "ytallicfckbdeaaa", sum := "d69d511f51e4a11570b487ed58b853dd35869f980c2a072be0822603cde6b7ad", func := "contango/contangolaw11.CornerNeeds", spec := "cornerNeeds", unfollowed := true, recurses := true, plainKeys := false, apart := false }
def CornerNeedsSaid : Prop := cornerNeedsRow.holds Try.pinned (OpenSpec.ofChange cornerNeedsSpec)

/-- ITS FALSE NEIGHBOUR: 'it returns false'. Refute it at one input. -/
def cornerNeedsWrong : ChangeSpec := { name := "cornerNeeds", fn := fun _ => fun
  | [d1, d2] => { results := [.lit (.bool false)], args := [d1, d2] }
  | _ => none }
def CornerNeedsWrongFalsely : Prop := cornerNeedsRow.holds Try.pinned (OpenSpec.ofChange cornerNeedsWrong)

/-- 'contangolaw11.CornerShorts': WHATEVER THE INPUT: true; the input reads as it did. -/
def cornerShortsSpec : ChangeSpec := { name := "cornerShorts", fn := fun _ => fun
  | [d1, d2] => { results := [.lit (.bool true)], args := [d1, d2] }
  | _ => none }
def cornerShortsRow : OpenClaim := { program := "ytallicfckbdeaaa", sum := "d69d511f51e4a11570b487ed58b853dd35869f980c2a072be0822603cde6b7ad", func := "contango/contangolaw11.CornerShorts", spec := "cornerShorts", unfollowed := true, recurses := true, plainKeys := false, apart := false }
def CornerShortsSaid : Prop := cornerShortsRow.holds Try.pinned (OpenSpec.ofChange cornerShortsSpec)

/-- ITS FALSE NEIGHBOUR: 'it returns false'. Refute it at one input. -/
def cornerShortsWrong : ChangeSpec := { name := "cornerShorts", fn := fun _ => fun
  | [d1, d2] => { results := [.lit (.bool false)], args := [d1, d2] }
  | _ => none }
def CornerShortsWrongFalsely : Prop := cornerShortsRow.holds Try.pinned (OpenSpec.ofChange cornerShortsWrong)

/-- 'contangolaw11.CornerHolds': WHATEVER THE INPUT: true; the input reads as it did. -/
def cornerHoldsSpec : ChangeSpec := { name := "cornerHolds", fn := fun _ => fun
  | [d] => { results := [.lit (.bool true)], args := [d] }
  | _ => none }
def cornerHoldsRow : OpenClaim := { program := "ytallicfckbdeaaa", sum := "d69d511f51e4a11570b487ed58b853dd35869f980c2a072be0822603cde6b7ad", func := "contango/contangolaw11.CornerHolds", spec := "cornerHolds", unfollowed := true, recurses := true, plainKeys := false, apart := false }
def CornerHoldsSaid : Prop := cornerHoldsRow.holds Try.pinned (OpenSpec.ofChange cornerHoldsSpec)

/-- ITS FALSE NEIGHBOUR: 'it returns false'. Refute it at one input. -/
def cornerHoldsWrong : ChangeSpec := { name := "cornerHolds", fn := fun _ => fun
  | [d] => { results := [.lit (.bool false)], args := [d] }
  | _ => none }
def CornerHoldsWrongFalsely : Prop := cornerHoldsRow.holds Try.pinned (OpenSpec.ofChange cornerHoldsWrong)

/-- 'contangolaw11.CornerLeaves': WHATEVER THE INPUT: true; the input reads as it did. -/
def cornerLeavesSpec : ChangeSpec := { name := "cornerLeaves", fn := fun _ => fun
  | [d] => { results := [.lit (.bool true)], args := [d] }
  | _ => none }
def cornerLeavesRow : OpenClaim := { program := "ytallicfckbdeaaa", sum := "d69d511f51e4a11570b487ed58b853dd35869f980c2a072be0822603cde6b7ad", func := "contango/contangolaw11.CornerLeaves", spec := "cornerLeaves", unfollowed := true, recurses := true, plainKeys := false, apart := false }
def CornerLeavesSaid : Prop := cornerLeavesRow.holds Try.pinned (OpenSpec.ofChange cornerLeavesSpec)

/-- ITS FALSE NEIGHBOUR: 'it returns false'. Refute it at one input. -/
def cornerLeavesWrong : ChangeSpec := { name := "cornerLeaves", fn := fun _ => fun
  | [d] => { results := [.lit (.bool false)], args := [d] }
  | _ => none }
def CornerLeavesWrongFalsely : Prop := cornerLeavesRow.holds Try.pinned (OpenSpec.ofChange cornerLeavesWrong)

/-- 'contangolaw11.CornerNames': WHATEVER THE INPUT: true; the input reads as it did. -/
def cornerNamesSpec : ChangeSpec := { name := "cornerNames", fn := fun _ => fun
  | [] => { results := [.lit (.bool true)], args := [] }
  | _ => none }
def cornerNamesRow : OpenClaim := { program := "ytallicfckbdeaaa", sum := "d69d511f51e4a11570b487ed58b853dd35869f980c2a072be0822603cde6b7ad", func := "contango/contangolaw11.CornerNames", spec := "cornerNames", unfollowed := true, recurses := true, plainKeys := false, apart := false }
def CornerNamesSaid : Prop := cornerNamesRow.holds Try.pinned (OpenSpec.ofChange cornerNamesSpec)

/-- ITS FALSE NEIGHBOUR: 'it returns false'. Refute it at one input. -/
def cornerNamesWrong : ChangeSpec := { name := "cornerNames", fn := fun _ => fun
  | [] => { results := [.lit (.bool false)], args := [] }
  | _ => none }
def CornerNamesWrongFalsely : Prop := cornerNamesRow.holds Try.pinned (OpenSpec.ofChange cornerNamesWrong)

/-- 'contangolaw11.CornerTruth': WHATEVER THE INPUT: true; the input reads as it did. -/
def cornerTruthSpec : ChangeSpec := { name := "cornerTruth", fn := fun _ => fun
  | [d1, d2] => { results := [.lit (.bool true)], args := [d1, d2] }
  | _ => none }
def cornerTruthRow : OpenClaim := { program := "ytallicfckbdeaaa", sum := "d69d511f51e4a11570b487ed58b853dd35869f980c2a072be0822603cde6b7ad", func := "contango/contangolaw11.CornerTruth", spec := "cornerTruth", unfollowed := true, recurses := true, plainKeys := false, apart := false }
def CornerTruthSaid : Prop := cornerTruthRow.holds Try.pinned (OpenSpec.ofChange cornerTruthSpec)

/-- ITS FALSE NEIGHBOUR: 'it returns false'. Refute it at one input. -/
def cornerTruthWrong : ChangeSpec := { name := "cornerTruth", fn := fun _ => fun
  | [d1, d2] => { results := [.lit (.bool false)], args := [d1, d2] }
  | _ => none }
def CornerTruthWrongFalsely : Prop := cornerTruthRow.holds Try.pinned (OpenSpec.ofChange cornerTruthWrong)

/-- 'contangolaw11.CornerEnds': WHATEVER THE INPUT: true; the input reads as it did. -/
def cornerEndsSpec : ChangeSpec := { name := "cornerEnds", fn := fun _ => fun
  | [d] => { results := [.lit (.bool true)], args := [d] }
  | _ => none }
def cornerEndsRow : OpenClaim := { program := "ytallicfckbdeaaa", sum := "d69d511f51e4a11570b487ed58b853dd35869f980c2a072be0822603cde6b7ad", func := "contango/contangolaw11.CornerEnds", spec := "cornerEnds", unfollowed := true, recurses := true, plainKeys := false, apart := false }
def CornerEndsSaid : Prop := cornerEndsRow.holds Try.pinned (OpenSpec.ofChange cornerEndsSpec)

/-- ITS FALSE NEIGHBOUR: 'it returns false'. Refute it at one input. -/
def cornerEndsWrong : ChangeSpec := { name := "cornerEnds", fn := fun _ => fun
  | [d] => { results := [.lit (.bool false)], args := [d] }
  | _ => none }
def CornerEndsWrongFalsely : Prop := cornerEndsRow.holds Try.pinned (OpenSpec.ofChange cornerEndsWrong)

/-- 'contangolaw11.CornerCheapest': WHATEVER THE INPUT: true; the input reads as it did. -/
def cornerCheapestSpec : ChangeSpec := { name := "cornerCheapest", fn := fun _ => fun
  | [d1, d2, d3] => { results := [.lit (.bool true)], args := [d1, d2, d3] }
  | _ => none }
def cornerCheapestRow : OpenClaim := { program := "ytallicfckbdeaaa", sum := "d69d511f51e4a11570b487ed58b853dd35869f980c2a072be0822603cde6b7ad", func := "contango/contangolaw11.CornerCheapest", spec := "cornerCheapest", unfollowed := true, recurses := true, plainKeys := false, apart := false }
def CornerCheapestSaid : Prop := cornerCheapestRow.holds Try.pinned (OpenSpec.ofChange cornerCheapestSpec)

/-- ITS FALSE NEIGHBOUR: 'it returns false'. Refute it at one input. -/
def cornerCheapestWrong : ChangeSpec := { name := "cornerCheapest", fn := fun _ => fun
  | [d1, d2, d3] => { results := [.lit (.bool false)], args := [d1, d2, d3] }
  | _ => none }
def CornerCheapestWrongFalsely : Prop := cornerCheapestRow.holds Try.pinned (OpenSpec.ofChange cornerCheapestWrong)

/-- 'contangolaw11.CornerKept': WHATEVER THE INPUT: true; the input reads as it did. -/
def cornerKeptSpec : ChangeSpec := { name := "cornerKept", fn := fun _ => fun
  | [d1, d2, d3] => { results := [.lit (.bool true)], args := [d1, d2, d3] }
  | _ => none }
def cornerKeptRow : OpenClaim := { program := "ytallicfckbdeaaa", sum := "d69d511f51e4a11570b487ed58b853dd35869f980c2a072be0822603cde6b7ad", func := "contango/contangolaw11.CornerKept", spec := "cornerKept", unfollowed := true, recurses := true, plainKeys := false, apart := false }
def CornerKeptSaid : Prop := cornerKeptRow.holds Try.pinned (OpenSpec.ofChange cornerKeptSpec)

/-- ITS FALSE NEIGHBOUR: 'it returns false'. Refute it at one input. -/
def cornerKeptWrong : ChangeSpec := { name := "cornerKept", fn := fun _ => fun
  | [d1, d2, d3] => { results := [.lit (.bool false)], args := [d1, d2, d3] }
  | _ => none }
def CornerKeptWrongFalsely : Prop := cornerKeptRow.holds Try.pinned (OpenSpec.ofChange cornerKeptWrong)

/-- 'contangolaw11.CornerSmallest': WHATEVER THE INPUT: true; the input reads as it did. -/
def cornerSmallestSpec : ChangeSpec := { name := "cornerSmallest", fn := fun _ => fun
  | [d1, d2, d3] => { results := [.lit (.bool true)], args := [d1, d2, d3] }
  | _ => none }
def cornerSmallestRow : OpenClaim := { program := "ytallicfckbdeaaa", sum := "d69d511f51e4a11570b487ed58b853dd35869f980c2a072be0822603cde6b7ad", func := "contango/contangolaw11.CornerSmallest", spec := "cornerSmallest", unfollowed := true, recurses := true, plainKeys := false, apart := false }
def CornerSmallestSaid : Prop := cornerSmallestRow.holds Try.pinned (OpenSpec.ofChange cornerSmallestSpec)

/-- ITS FALSE NEIGHBOUR: 'it returns false'. Refute it at one input. -/
def cornerSmallestWrong : ChangeSpec := { name := "cornerSmallest", fn := fun _ => fun
  | [d1, d2, d3] => { results := [.lit (.bool false)], args := [d1, d2, d3] }
  | _ => none }
def CornerSmallestWrongFalsely : Prop := cornerSmallestRow.holds Try.pinned (OpenSpec.ofChange cornerSmallestWrong)

/-- 'contangolaw11.CornerWider': WHATEVER THE INPUT: true; the input reads as it did. -/
def cornerWiderSpec : ChangeSpec := { name := "cornerWider", fn := fun _ => fun
  | [d1, d2, d3] => { results := [.lit (.bool true)], args := [d1, d2, d3] }
  | _ => none }
def cornerWiderRow : OpenClaim := { program := "ytallicfckbdeaaa", sum := "d69d511f51e4a11570b487ed58b853dd35869f980c2a072be0822603cde6b7ad", func := "contango/contangolaw11.CornerWider", spec := "cornerWider", unfollowed := true, recurses := true, plainKeys := false, apart := false }
def CornerWiderSaid : Prop := cornerWiderRow.holds Try.pinned (OpenSpec.ofChange cornerWiderSpec)

/-- ITS FALSE NEIGHBOUR: 'it returns false'. Refute it at one input. -/
def cornerWiderWrong : ChangeSpec := { name := "cornerWider", fn := fun _ => fun
  | [d1, d2, d3] => { results := [.lit (.bool false)], args := [d1, d2, d3] }
  | _ => none }
def CornerWiderWrongFalsely : Prop := cornerWiderRow.holds Try.pinned (OpenSpec.ofChange cornerWiderWrong)

/-- 'contangolaw11.CornerDearer': WHATEVER THE INPUT: true; the input reads as it did. -/
def cornerDearerSpec : ChangeSpec := { name := "cornerDearer", fn := fun _ => fun
  | [d1, d2, d3, d4] => { results := [.lit (.bool true)], args := [d1, d2, d3, d4] }
  | _ => none }
def cornerDearerRow : OpenClaim := { program := "ytallicfckbdeaaa", sum := "d69d511f51e4a11570b487ed58b853dd35869f980c2a072be0822603cde6b7ad", func := "contango/contangolaw11.CornerDearer", spec := "cornerDearer", unfollowed := true, recurses := true, plainKeys := false, apart := false }
def CornerDearerSaid : Prop := cornerDearerRow.holds Try.pinned (OpenSpec.ofChange cornerDearerSpec)

/-- ITS FALSE NEIGHBOUR: 'it returns false'. Refute it at one input. -/
def cornerDearerWrong : ChangeSpec := { name := "cornerDearer", fn := fun _ => fun
  | [d1, d2, d3, d4] => { results := [.lit (.bool false)], args := [d1, d2, d3, d4] }
  | _ => none }
def CornerDearerWrongFalsely : Prop := cornerDearerRow.holds Try.pinned (OpenSpec.ofChange cornerDearerWrong)

/-- 'contangolaw11.CornerLeft': WHATEVER THE INPUT: true; the input reads as it did. -/
def cornerLeftSpec : ChangeSpec := { name := "cornerLeft", fn := fun _ => fun
  | [d1, d2] => { results := [.lit (.bool true)], args := [d1, d2] }
  | _ => none }
def cornerLeftRow : OpenClaim := { program := "ytallicfckbdeaaa", sum := "d69d511f51e4a11570b487ed58b853dd35869f980c2a072be0822603cde6b7ad", func := "contango/contangolaw11.CornerLeft", spec := "cornerLeft", unfollowed := true, recurses := true, plainKeys := false, apart := false }
def CornerLeftSaid : Prop := cornerLeftRow.holds Try.pinned (OpenSpec.ofChange cornerLeftSpec)

/-- ITS FALSE NEIGHBOUR: 'it returns false'. Refute it at one input. -/
def cornerLeftWrong : ChangeSpec := { name := "cornerLeft", fn := fun _ => fun
  | [d1, d2] => { results := [.lit (.bool false)], args := [d1, d2] }
  | _ => none }
def CornerLeftWrongFalsely : Prop := cornerLeftRow.holds Try.pinned (OpenSpec.ofChange cornerLeftWrong)

/-- 'contangolaw11.CornerAgainst': WHATEVER THE INPUT: true; the input reads as it did. -/
def cornerAgainstSpec : ChangeSpec := { name := "cornerAgainst", fn := fun _ => fun
  | [d1, d2] => { results := [.lit (.bool true)], args := [d1, d2] }
  | _ => none }
def cornerAgainstRow : OpenClaim := { program := "ytallicfckbdeaaa", sum := "d69d511f51e4a11570b487ed58b853dd35869f980c2a072be0822603cde6b7ad", func := "contango/contangolaw11.CornerAgainst", spec := "cornerAgainst", unfollowed := true, recurses := true, plainKeys := false, apart := false }
def CornerAgainstSaid : Prop := cornerAgainstRow.holds Try.pinned (OpenSpec.ofChange cornerAgainstSpec)

/-- ITS FALSE NEIGHBOUR: 'it returns false'. Refute it at one input. -/
def cornerAgainstWrong : ChangeSpec := { name := "cornerAgainst", fn := fun _ => fun
  | [d1, d2] => { results := [.lit (.bool false)], args := [d1, d2] }
  | _ => none }
def CornerAgainstWrongFalsely : Prop := cornerAgainstRow.holds Try.pinned (OpenSpec.ofChange cornerAgainstWrong)

/- THE SECOND FORM. 'bulk': how many values and letters a reading holds, each counted each time it is reached (what is shared counts as often as it is met; a slice's spare places count too). A statement '..UptoSaid' is the law's where the arguments, and the package variables that the reading takes, are together of bulk at most 1048576: NARROWER than '..Said'. Prove '..Said' where nothing that the law and all that it calls make is longer than what came in: it says more and counts as full. Else prove '..UptoSaid'. A law counts once. -/
mutual
def uptoBulk {H : Type} : DataW H → Nat
  | .lit (.string bytes) => bytes.length + 1
  | .lit _ => 1
  | .nil => 1
  | .ptr d => uptoBulk d + 1
  | .slice elems spare => uptoBulkAll elems + uptoBulkAll spare + 1
  | .agg parts => uptoBulkAll parts + 1
  | .iface _ d => uptoBulk d + 1
  | .map entries => uptoBulkEntries entries + 1
  | .held _ => 1
def uptoBulkAll {H : Type} : List (DataW H) → Nat
  | [] => 0
  | d :: r => uptoBulk d + uptoBulkAll r
def uptoBulkEntries {H : Type} : List (Lit × DataW H) → Nat
  | [] => 0
  | x :: r => uptoBulkEntry x + uptoBulkEntries r
def uptoBulkEntry {H : Type} : Lit × DataW H → Nat
  | (.string bytes, d) => bytes.length + uptoBulk d + 1
  | (_, d) => uptoBulk d + 1
 end
def uptoSmall : (H : Type) → List (DataW H) → Bool := fun _ ds => decide (uptoBulkAll ds ≤ 1048576)
def OpenSpec.upto (s : _root_.Go.ChangeSpec) : _root_.Go.OpenSpec := { _root_.Go.OpenSpec.ofChange s with cond := some uptoSmall }

/-- 'contangolaw11.CornerNeeds', WHERE WHAT IT READS IS OF BULK AT MOST 1048576: true; the input reads as it did. -/
def cornerNeedsUptoRow : OpenClaim := { program := "ytallicfckbdeaaa", sum := "d69d511f51e4a11570b487ed58b853dd35869f980c2a072be0822603cde6b7ad", func := "contango/contangolaw11.CornerNeeds", spec := "cornerNeeds", unfollowed := true, recurses := true, plainKeys := false, apart := false, narrowed := true }
def CornerNeedsUptoSaid : Prop := cornerNeedsUptoRow.holds Try.pinned (OpenSpec.upto cornerNeedsSpec)

/-- 'contangolaw11.CornerShorts', WHERE WHAT IT READS IS OF BULK AT MOST 1048576: true; the input reads as it did. -/
def cornerShortsUptoRow : OpenClaim := { program := "ytallicfckbdeaaa", sum := "d69d511f51e4a11570b487ed58b853dd35869f980c2a072be0822603cde6b7ad", func := "contango/contangolaw11.CornerShorts", spec := "cornerShorts", unfollowed := true, recurses := true, plainKeys := false, apart := false, narrowed := true }
def CornerShortsUptoSaid : Prop := cornerShortsUptoRow.holds Try.pinned (OpenSpec.upto cornerShortsSpec)

/-- 'contangolaw11.CornerHolds', WHERE WHAT IT READS IS OF BULK AT MOST 1048576: true; the input reads as it did. -/
def cornerHoldsUptoRow : OpenClaim := { program := "ytallicfckbdeaaa", sum := "d69d511f51e4a11570b487ed58b853dd35869f980c2a072be0822603cde6b7ad", func := "contango/contangolaw11.CornerHolds", spec := "cornerHolds", unfollowed := true, recurses := true, plainKeys := false, apart := false, narrowed := true }
def CornerHoldsUptoSaid : Prop := cornerHoldsUptoRow.holds Try.pinned (OpenSpec.upto cornerHoldsSpec)

/-- 'contangolaw11.CornerLeaves', WHERE WHAT IT READS IS OF BULK AT MOST 1048576: true; the input reads as it did. -/
def cornerLeavesUptoRow : OpenClaim := { program := "ytallicfckbdeaaa", sum := "d69d511f51e4a11570b487ed58b853dd35869f980c2a072be0822603cde6b7ad", func := "contango/contangolaw11.CornerLeaves", spec := "cornerLeaves", unfollowed := true, recurses := true, plainKeys := false, apart := false, narrowed := true }
def CornerLeavesUptoSaid : Prop := cornerLeavesUptoRow.holds Try.pinned (OpenSpec.upto cornerLeavesSpec)

/-- 'contangolaw11.CornerNames', WHERE WHAT IT READS IS OF BULK AT MOST 1048576: true; the input reads as it did. -/
def cornerNamesUptoRow : OpenClaim := { program := "ytallicfckbdeaaa", sum := "d69d511f51e4a11570b487ed58b853dd35869f980c2a072be0822603cde6b7ad", func := "contango/contangolaw11.CornerNames", spec := "cornerNames", unfollowed := true, recurses := true, plainKeys := false, apart := false, narrowed := true }
def CornerNamesUptoSaid : Prop := cornerNamesUptoRow.holds Try.pinned (OpenSpec.upto cornerNamesSpec)

/-- 'contangolaw11.CornerTruth', WHERE WHAT IT READS IS OF BULK AT MOST 1048576: true; the input reads as it did. -/
def cornerTruthUptoRow : OpenClaim := { program := "ytallicfckbdeaaa", sum := "d69d511f51e4a11570b487ed58b853dd35869f980c2a072be0822603cde6b7ad", func := "contango/contangolaw11.CornerTruth", spec := "cornerTruth", unfollowed := true, recurses := true, plainKeys := false, apart := false, narrowed := true }
def CornerTruthUptoSaid : Prop := cornerTruthUptoRow.holds Try.pinned (OpenSpec.upto cornerTruthSpec)

/-- 'contangolaw11.CornerEnds', WHERE WHAT IT READS IS OF BULK AT MOST 1048576: true; the input reads as it did. -/
def cornerEndsUptoRow : OpenClaim := { program := "ytallicfckbdeaaa", sum := "d69d511f51e4a11570b487ed58b853dd35869f980c2a072be0822603cde6b7ad", func := "contango/contangolaw11.CornerEnds", spec := "cornerEnds", unfollowed := true, recurses := true, plainKeys := false, apart := false, narrowed := true }
def CornerEndsUptoSaid : Prop := cornerEndsUptoRow.holds Try.pinned (OpenSpec.upto cornerEndsSpec)

/-- 'contangolaw11.CornerCheapest', WHERE WHAT IT READS IS OF BULK AT MOST 1048576: true; the input reads as it did. -/
def cornerCheapestUptoRow : OpenClaim := { program := "ytallicfckbdeaaa", sum := "d69d511f51e4a11570b487ed58b853dd35869f980c2a072be0822603cde6b7ad", func := "contango/contangolaw11.CornerCheapest", spec := "cornerCheapest", unfollowed := true, recurses := true, plainKeys := false, apart := false, narrowed := true }
def CornerCheapestUptoSaid : Prop := cornerCheapestUptoRow.holds Try.pinned (OpenSpec.upto cornerCheapestSpec)

/-- 'contangolaw11.CornerKept', WHERE WHAT IT READS IS OF BULK AT MOST 1048576: true; the input reads as it did. -/
def cornerKeptUptoRow : OpenClaim := { program := "ytallicfckbdeaaa", sum := "d69d511f51e4a11570b487ed58b853dd35869f980c2a072be0822603cde6b7ad", func := "contango/contangolaw11.CornerKept", spec := "cornerKept", unfollowed := true, recurses := true, plainKeys := false, apart := false, narrowed := true }
def CornerKeptUptoSaid : Prop := cornerKeptUptoRow.holds Try.pinned (OpenSpec.upto cornerKeptSpec)

/-- 'contangolaw11.CornerSmallest', WHERE WHAT IT READS IS OF BULK AT MOST 1048576: true; the input reads as it did. -/
def cornerSmallestUptoRow : OpenClaim := { program := "ytallicfckbdeaaa", sum := "d69d511f51e4a11570b487ed58b853dd35869f980c2a072be0822603cde6b7ad", func := "contango/contangolaw11.CornerSmallest", spec := "cornerSmallest", unfollowed := true, recurses := true, plainKeys := false, apart := false, narrowed := true }
def CornerSmallestUptoSaid : Prop := cornerSmallestUptoRow.holds Try.pinned (OpenSpec.upto cornerSmallestSpec)

/-- 'contangolaw11.CornerWider', WHERE WHAT IT READS IS OF BULK AT MOST 1048576: true; the input reads as it did. -/
def cornerWiderUptoRow : OpenClaim := { program := "ytallicfckbdeaaa", sum := "d69d511f51e4a11570b487ed58b853dd35869f980c2a072be0822603cde6b7ad", func := "contango/contangolaw11.CornerWider", spec := "cornerWider", unfollowed := true, recurses := true, plainKeys := false, apart := false, narrowed := true }
def CornerWiderUptoSaid : Prop := cornerWiderUptoRow.holds Try.pinned (OpenSpec.upto cornerWiderSpec)

/-- 'contangolaw11.CornerDearer', WHERE WHAT IT READS IS OF BULK AT MOST 1048576: true; the input reads as it did. -/
def cornerDearerUptoRow : OpenClaim := { program := "ytallicfckbdeaaa", sum := "d69d511f51e4a11570b487ed58b853dd35869f980c2a072be0822603cde6b7ad", func := "contango/contangolaw11.CornerDearer", spec := "cornerDearer", unfollowed := true, recurses := true, plainKeys := false, apart := false, narrowed := true }
def CornerDearerUptoSaid : Prop := cornerDearerUptoRow.holds Try.pinned (OpenSpec.upto cornerDearerSpec)

/-- 'contangolaw11.CornerLeft', WHERE WHAT IT READS IS OF BULK AT MOST 1048576: true; the input reads as it did. -/
def cornerLeftUptoRow : OpenClaim := { program := "ytallicfckbdeaaa", sum := "d69d511f51e4a11570b487ed58b853dd35869f980c2a072be0822603cde6b7ad", func := "contango/contangolaw11.CornerLeft", spec := "cornerLeft", unfollowed := true, recurses := true, plainKeys := false, apart := false, narrowed := true }
def CornerLeftUptoSaid : Prop := cornerLeftUptoRow.holds Try.pinned (OpenSpec.upto cornerLeftSpec)

/-- 'contangolaw11.CornerAgainst', WHERE WHAT IT READS IS OF BULK AT MOST 1048576: true; the input reads as it did. -/
def cornerAgainstUptoRow : OpenClaim := { program := "ytallicfckbdeaaa", sum := "d69d511f51e4a11570b487ed58b853dd35869f980c2a072be0822603cde6b7ad", func := "contango/contangolaw11.CornerAgainst", spec := "cornerAgainst", unfollowed := true, recurses := true, plainKeys := false, apart := false, narrowed := true }
def CornerAgainstUptoSaid : Prop := cornerAgainstUptoRow.holds Try.pinned (OpenSpec.upto cornerAgainstSpec)

end Rows
end Go.Proofs.Ytallicfckbdeaaa
