/-
  No cell of these rows narrows 'for every input' (looked for: loops, veiled, ifaces, maps, wideKeys, modest, calm, conditions, laid).
  DERIVED. THE GIVEN ROWS OF THIS SEAT. 13 by the template 'for every input the law returns true; each argument reads behind the call as it read before'; 0 by the template 'total and deterministic' (their statements: YtilhflfbbfeakaaTotals.lean).
  GIVEN WITH THE SEED: the statements are not yours to turn. If you find one false, say at which input.
  Laid BY PROGRAM, IN A SANDBOX (cutbox-rows.mjs): the forced cells as the released guide's own fill.sh prints them over the translation de01bb40af9d95b0… (all of the seat's roots in one cut). By AI agents, Wed Nov 11 2026. No macro, syntax, notation, axiom, sorry.
-/
import Derived.Test.YtilhflfbbfeakaaChecked
import GoSem.Claim
import GoSem.ClaimJoined
import GoSem.ClaimMapViews
import Derived.JoinedTies
import Derived.KernelRfl
namespace Go.Proofs.Ytilhflfbbfeakaa
/- THE CELL 'sum', in the pinned program and in every row, IS THE sha256 OF THE DUMP (.gsa) THAT YtilhflfbbfeakaaProg.lean LOADS. Nothing in Lean hashes anything: it is a label: what it is worth is what the hold of that sum in a sandbox is worth. -/
noncomputable def Try.pinned : Pinned := { name := "ytilhflfbbfeakaa", sum := "de01bb40af9d95b04a59dba41e775869b12beb899d2cf122704bfd1d1fd84526", checked := Try.checked }
namespace Rows
def none {H : Type} : Left H := { results := [], args := [] }

/-- 'contangolaw06.RingMoney': WHATEVER THE INPUT: true; the input reads as it did. -/
def ringMoneySpec : ChangeSpec := { name := "ringMoney", fn := fun _ => fun
  | [d1, d2, d3] => { results := [.lit (.bool true)], args := [d1, d2, d3] }
  | _ => none }
def ringMoneyRow : OpenClaim := { program := "ytilhflfbbfeakaa", sum := "de01bb40af9d95b04a59dba41e775869b12beb899d2cf122704bfd1d1fd84526", func := "contango/contangolaw06.RingMoney", spec := "ringMoney", unfollowed := true, recurses := true, plainKeys := false, apart := false }
def RingMoneySaid : Prop := ringMoneyRow.holds Try.pinned (OpenSpec.ofChange ringMoneySpec)

/-- ITS FALSE NEIGHBOUR: 'it returns false'. Refute it at one input. -/
def ringMoneyWrong : ChangeSpec := { name := "ringMoney", fn := fun _ => fun
  | [d1, d2, d3] => { results := [.lit (.bool false)], args := [d1, d2, d3] }
  | _ => none }
def RingMoneyWrongFalsely : Prop := ringMoneyRow.holds Try.pinned (OpenSpec.ofChange ringMoneyWrong)

/-- 'contangolaw06.RingGreatest': WHATEVER THE INPUT: true; the input reads as it did. -/
def ringGreatestSpec : ChangeSpec := { name := "ringGreatest", fn := fun _ => fun
  | [d] => { results := [.lit (.bool true)], args := [d] }
  | _ => none }
def ringGreatestRow : OpenClaim := { program := "ytilhflfbbfeakaa", sum := "de01bb40af9d95b04a59dba41e775869b12beb899d2cf122704bfd1d1fd84526", func := "contango/contangolaw06.RingGreatest", spec := "ringGreatest", unfollowed := true, recurses := true, plainKeys := false, apart := false }
def RingGreatestSaid : Prop := ringGreatestRow.holds Try.pinned (OpenSpec.ofChange ringGreatestSpec)

/-- ITS FALSE NEIGHBOUR: 'it returns false'. Refute it at one input. -/
def ringGreatestWrong : ChangeSpec := { name := "ringGreatest", fn := fun _ => fun
  | [d] => { results := [.lit (.bool false)], args := [d] }
  | _ => none }
def RingGreatestWrongFalsely : Prop := ringGreatestRow.holds Try.pinned (OpenSpec.ofChange ringGreatestWrong)

/-- 'contangolaw06.RingRings': WHATEVER THE INPUT: true; the input reads as it did. -/
def ringRingsSpec : ChangeSpec := { name := "ringRings", fn := fun _ => fun
  | [d] => { results := [.lit (.bool true)], args := [d] }
  | _ => none }
def ringRingsRow : OpenClaim := { program := "ytilhflfbbfeakaa", sum := "de01bb40af9d95b04a59dba41e775869b12beb899d2cf122704bfd1d1fd84526", func := "contango/contangolaw06.RingRings", spec := "ringRings", unfollowed := true, recurses := true, plainKeys := false, apart := false }
def RingRingsSaid : Prop := ringRingsRow.holds Try.pinned (OpenSpec.ofChange ringRingsSpec)

/-- ITS FALSE NEIGHBOUR: 'it returns false'. Refute it at one input. -/
def ringRingsWrong : ChangeSpec := { name := "ringRings", fn := fun _ => fun
  | [d] => { results := [.lit (.bool false)], args := [d] }
  | _ => none }
def RingRingsWrongFalsely : Prop := ringRingsRow.holds Try.pinned (OpenSpec.ofChange ringRingsWrong)

/-- 'contangolaw06.RingFewest': WHATEVER THE INPUT: true; the input reads as it did. -/
def ringFewestSpec : ChangeSpec := { name := "ringFewest", fn := fun _ => fun
  | [d] => { results := [.lit (.bool true)], args := [d] }
  | _ => none }
def ringFewestRow : OpenClaim := { program := "ytilhflfbbfeakaa", sum := "de01bb40af9d95b04a59dba41e775869b12beb899d2cf122704bfd1d1fd84526", func := "contango/contangolaw06.RingFewest", spec := "ringFewest", unfollowed := true, recurses := true, plainKeys := false, apart := false }
def RingFewestSaid : Prop := ringFewestRow.holds Try.pinned (OpenSpec.ofChange ringFewestSpec)

/-- ITS FALSE NEIGHBOUR: 'it returns false'. Refute it at one input. -/
def ringFewestWrong : ChangeSpec := { name := "ringFewest", fn := fun _ => fun
  | [d] => { results := [.lit (.bool false)], args := [d] }
  | _ => none }
def RingFewestWrongFalsely : Prop := ringFewestRow.holds Try.pinned (OpenSpec.ofChange ringFewestWrong)

/-- 'contangolaw06.RingLeft': WHATEVER THE INPUT: true; the input reads as it did. -/
def ringLeftSpec : ChangeSpec := { name := "ringLeft", fn := fun _ => fun
  | [d] => { results := [.lit (.bool true)], args := [d] }
  | _ => none }
def ringLeftRow : OpenClaim := { program := "ytilhflfbbfeakaa", sum := "de01bb40af9d95b04a59dba41e775869b12beb899d2cf122704bfd1d1fd84526", func := "contango/contangolaw06.RingLeft", spec := "ringLeft", unfollowed := true, recurses := true, plainKeys := false, apart := false }
def RingLeftSaid : Prop := ringLeftRow.holds Try.pinned (OpenSpec.ofChange ringLeftSpec)

/-- ITS FALSE NEIGHBOUR: 'it returns false'. Refute it at one input. -/
def ringLeftWrong : ChangeSpec := { name := "ringLeft", fn := fun _ => fun
  | [d] => { results := [.lit (.bool false)], args := [d] }
  | _ => none }
def RingLeftWrongFalsely : Prop := ringLeftRow.holds Try.pinned (OpenSpec.ofChange ringLeftWrong)

/-- 'contangolaw06.RingNone': WHATEVER THE INPUT: true; the input reads as it did. -/
def ringNoneSpec : ChangeSpec := { name := "ringNone", fn := fun _ => fun
  | [d1, d2, d3, d4] => { results := [.lit (.bool true)], args := [d1, d2, d3, d4] }
  | _ => none }
def ringNoneRow : OpenClaim := { program := "ytilhflfbbfeakaa", sum := "de01bb40af9d95b04a59dba41e775869b12beb899d2cf122704bfd1d1fd84526", func := "contango/contangolaw06.RingNone", spec := "ringNone", unfollowed := true, recurses := true, plainKeys := false, apart := false }
def RingNoneSaid : Prop := ringNoneRow.holds Try.pinned (OpenSpec.ofChange ringNoneSpec)

/-- ITS FALSE NEIGHBOUR: 'it returns false'. Refute it at one input. -/
def ringNoneWrong : ChangeSpec := { name := "ringNone", fn := fun _ => fun
  | [d1, d2, d3, d4] => { results := [.lit (.bool false)], args := [d1, d2, d3, d4] }
  | _ => none }
def RingNoneWrongFalsely : Prop := ringNoneRow.holds Try.pinned (OpenSpec.ofChange ringNoneWrong)

/-- 'contangolaw06.RingMore': WHATEVER THE INPUT: true; the input reads as it did. -/
def ringMoreSpec : ChangeSpec := { name := "ringMore", fn := fun _ => fun
  | [d1, d2, d3, d4] => { results := [.lit (.bool true)], args := [d1, d2, d3, d4] }
  | _ => none }
def ringMoreRow : OpenClaim := { program := "ytilhflfbbfeakaa", sum := "de01bb40af9d95b04a59dba41e775869b12beb899d2cf122704bfd1d1fd84526", func := "contango/contangolaw06.RingMore", spec := "ringMore", unfollowed := true, recurses := true, plainKeys := false, apart := false }
def RingMoreSaid : Prop := ringMoreRow.holds Try.pinned (OpenSpec.ofChange ringMoreSpec)

/-- ITS FALSE NEIGHBOUR: 'it returns false'. Refute it at one input. -/
def ringMoreWrong : ChangeSpec := { name := "ringMore", fn := fun _ => fun
  | [d1, d2, d3, d4] => { results := [.lit (.bool false)], args := [d1, d2, d3, d4] }
  | _ => none }
def RingMoreWrongFalsely : Prop := ringMoreRow.holds Try.pinned (OpenSpec.ofChange ringMoreWrong)

/-- 'contangolaw06.RingTurned': WHATEVER THE INPUT: true; the input reads as it did. -/
def ringTurnedSpec : ChangeSpec := { name := "ringTurned", fn := fun _ => fun
  | [d1, d2, d3] => { results := [.lit (.bool true)], args := [d1, d2, d3] }
  | _ => none }
def ringTurnedRow : OpenClaim := { program := "ytilhflfbbfeakaa", sum := "de01bb40af9d95b04a59dba41e775869b12beb899d2cf122704bfd1d1fd84526", func := "contango/contangolaw06.RingTurned", spec := "ringTurned", unfollowed := true, recurses := true, plainKeys := false, apart := false }
def RingTurnedSaid : Prop := ringTurnedRow.holds Try.pinned (OpenSpec.ofChange ringTurnedSpec)

/-- ITS FALSE NEIGHBOUR: 'it returns false'. Refute it at one input. -/
def ringTurnedWrong : ChangeSpec := { name := "ringTurned", fn := fun _ => fun
  | [d1, d2, d3] => { results := [.lit (.bool false)], args := [d1, d2, d3] }
  | _ => none }
def RingTurnedWrongFalsely : Prop := ringTurnedRow.holds Try.pinned (OpenSpec.ofChange ringTurnedWrong)

/-- 'contangolaw06.RingPenny': WHATEVER THE INPUT: true; the input reads as it did. -/
def ringPennySpec : ChangeSpec := { name := "ringPenny", fn := fun _ => fun
  | [d1, d2, d3, d4] => { results := [.lit (.bool true)], args := [d1, d2, d3, d4] }
  | _ => none }
def ringPennyRow : OpenClaim := { program := "ytilhflfbbfeakaa", sum := "de01bb40af9d95b04a59dba41e775869b12beb899d2cf122704bfd1d1fd84526", func := "contango/contangolaw06.RingPenny", spec := "ringPenny", unfollowed := true, recurses := true, plainKeys := false, apart := false }
def RingPennySaid : Prop := ringPennyRow.holds Try.pinned (OpenSpec.ofChange ringPennySpec)

/-- ITS FALSE NEIGHBOUR: 'it returns false'. Refute it at one input. -/
def ringPennyWrong : ChangeSpec := { name := "ringPenny", fn := fun _ => fun
  | [d1, d2, d3, d4] => { results := [.lit (.bool false)], args := [d1, d2, d3, d4] }
  | _ => none }
def RingPennyWrongFalsely : Prop := ringPennyRow.holds Try.pinned (OpenSpec.ofChange ringPennyWrong)

/-- 'contangolaw06.RingCosts': WHATEVER THE INPUT: true; the input reads as it did. -/
def ringCostsSpec : ChangeSpec := { name := "ringCosts", fn := fun _ => fun
  | [d1, d2, d3, d4] => { results := [.lit (.bool true)], args := [d1, d2, d3, d4] }
  | _ => none }
def ringCostsRow : OpenClaim := { program := "ytilhflfbbfeakaa", sum := "de01bb40af9d95b04a59dba41e775869b12beb899d2cf122704bfd1d1fd84526", func := "contango/contangolaw06.RingCosts", spec := "ringCosts", unfollowed := true, recurses := true, plainKeys := false, apart := false }
def RingCostsSaid : Prop := ringCostsRow.holds Try.pinned (OpenSpec.ofChange ringCostsSpec)

/-- ITS FALSE NEIGHBOUR: 'it returns false'. Refute it at one input. -/
def ringCostsWrong : ChangeSpec := { name := "ringCosts", fn := fun _ => fun
  | [d1, d2, d3, d4] => { results := [.lit (.bool false)], args := [d1, d2, d3, d4] }
  | _ => none }
def RingCostsWrongFalsely : Prop := ringCostsRow.holds Try.pinned (OpenSpec.ofChange ringCostsWrong)

/-- 'contangolaw06.RingProves': WHATEVER THE INPUT: true; the input reads as it did. -/
def ringProvesSpec : ChangeSpec := { name := "ringProves", fn := fun _ => fun
  | [d1, d2, d3, d4, d5, d6] => { results := [.lit (.bool true)], args := [d1, d2, d3, d4, d5, d6] }
  | _ => none }
def ringProvesRow : OpenClaim := { program := "ytilhflfbbfeakaa", sum := "de01bb40af9d95b04a59dba41e775869b12beb899d2cf122704bfd1d1fd84526", func := "contango/contangolaw06.RingProves", spec := "ringProves", unfollowed := true, recurses := true, plainKeys := false, apart := false }
def RingProvesSaid : Prop := ringProvesRow.holds Try.pinned (OpenSpec.ofChange ringProvesSpec)

/-- ITS FALSE NEIGHBOUR: 'it returns false'. Refute it at one input. -/
def ringProvesWrong : ChangeSpec := { name := "ringProves", fn := fun _ => fun
  | [d1, d2, d3, d4, d5, d6] => { results := [.lit (.bool false)], args := [d1, d2, d3, d4, d5, d6] }
  | _ => none }
def RingProvesWrongFalsely : Prop := ringProvesRow.holds Try.pinned (OpenSpec.ofChange ringProvesWrong)

/-- 'contangolaw06.RingNames': WHATEVER THE INPUT: true; the input reads as it did. -/
def ringNamesSpec : ChangeSpec := { name := "ringNames", fn := fun _ => fun
  | [] => { results := [.lit (.bool true)], args := [] }
  | _ => none }
def ringNamesRow : OpenClaim := { program := "ytilhflfbbfeakaa", sum := "de01bb40af9d95b04a59dba41e775869b12beb899d2cf122704bfd1d1fd84526", func := "contango/contangolaw06.RingNames", spec := "ringNames", unfollowed := true, recurses := true, plainKeys := false, apart := false }
def RingNamesSaid : Prop := ringNamesRow.holds Try.pinned (OpenSpec.ofChange ringNamesSpec)

/-- ITS FALSE NEIGHBOUR: 'it returns false'. Refute it at one input. -/
def ringNamesWrong : ChangeSpec := { name := "ringNames", fn := fun _ => fun
  | [] => { results := [.lit (.bool false)], args := [] }
  | _ => none }
def RingNamesWrongFalsely : Prop := ringNamesRow.holds Try.pinned (OpenSpec.ofChange ringNamesWrong)

/-- 'contangolaw06.RingSmallest': WHATEVER THE INPUT: true; the input reads as it did. -/
def ringSmallestSpec : ChangeSpec := { name := "ringSmallest", fn := fun _ => fun
  | [d1, d2] => { results := [.lit (.bool true)], args := [d1, d2] }
  | _ => none }
def ringSmallestRow : OpenClaim := { program := "ytilhflfbbfeakaa", sum := "de01bb40af9d95b04a59dba41e775869b12beb899d2cf122704bfd1d1fd84526", func := "contango/contangolaw06.RingSmallest", spec := "ringSmallest", unfollowed := true, recurses := true, plainKeys := false, apart := false }
def RingSmallestSaid : Prop := ringSmallestRow.holds Try.pinned (OpenSpec.ofChange ringSmallestSpec)

/-- ITS FALSE NEIGHBOUR: 'it returns false'. Refute it at one input. -/
def ringSmallestWrong : ChangeSpec := { name := "ringSmallest", fn := fun _ => fun
  | [d1, d2] => { results := [.lit (.bool false)], args := [d1, d2] }
  | _ => none }
def RingSmallestWrongFalsely : Prop := ringSmallestRow.holds Try.pinned (OpenSpec.ofChange ringSmallestWrong)

/- THE SECOND FORM. 'bulk': how many values and letters a reading holds, each counted each time it is reached (what is shared counts as often as it is met; a slice's spare places count too). A statement '..UptoSaid' is the law's where the arguments, and the package variables that the reading takes, are together of bulk at most 1048576: NARROWER than '..Said'. Prove '..Said' where nothing that the law and all that it calls make is longer than what came in: it says more and counts as full. Else prove '..UptoSaid'. A law counts once. -/
mutual
def uptoBulk {H : Type} : DataW H → Nat
  | .lit (.string bytes) => bytes.length + 1
  | .lit _ => 1
  | .nil => 1
  | .ptr d => uptoBulk d + 1
  | .slice elems spare => uptoBulkAll elems + uptoBulkAll spare + 1
  | .agg parts => uptoBulkAll parts + 1
  | .iface _ d => uptoBulk d + 1
  | .map entries => uptoBulkEntries entries + 1
  | .held _ => 1
def uptoBulkAll {H : Type} : List (DataW H) → Nat
  | [] => 0
  | d :: r => uptoBulk d + uptoBulkAll r
def uptoBulkEntries {H : Type} : List (Lit × DataW H) → Nat
  | [] => 0
  | x :: r => uptoBulkEntry x + uptoBulkEntries r
def uptoBulkEntry {H : Type} : Lit × DataW H → Nat
  | (.string bytes, d) => bytes.length + uptoBulk d + 1
  | (_, d) => uptoBulk d + 1
 end
def uptoSmall : (H : Type) → List (DataW H) → Bool := fun _ ds => decide (uptoBulkAll ds ≤ 1048576)
def OpenSpec.upto (s : _root_.Go.ChangeSpec) : _root_.Go.OpenSpec := { _root_.Go.OpenSpec.ofChange s with cond := some uptoSmall }

/-- 'contangolaw06.RingMoney', WHERE WHAT IT READS IS OF BULK AT MOST 1048576: true; the input reads as it did. -/
def ringMoneyUptoRow : OpenClaim := { program := "ytilhflfbbfeakaa", sum := "de01bb40af9d95b04a59dba41e775869b12beb899d2cf122704bfd1d1fd84526", func := "contango/contangolaw06.RingMoney", spec := "ringMoney", unfollowed := true, recurses := true, plainKeys := false, apart := false, narrowed := true }
def RingMoneyUptoSaid : Prop := ringMoneyUptoRow.holds Try.pinned (OpenSpec.upto ringMoneySpec)

/-- 'contangolaw06.RingGreatest', WHERE WHAT IT READS IS OF BULK AT MOST 1048576: true; the input reads as it did. -/
def ringGreatestUptoRow : OpenClaim := { program := "ytilhflfbbfeakaa", sum := "de01bb40af9d95b04a59dba41e775869b12beb899d2cf122704bfd1d1fd84526", func := "contango/contangolaw06.RingGreatest", spec := "ringGreatest", unfollowed := true, recurses := true, plainKeys := false, apart := false, narrowed := true }
def RingGreatestUptoSaid : Prop := ringGreatestUptoRow.holds Try.pinned (OpenSpec.upto ringGreatestSpec)

/-- 'contangolaw06.RingRings', WHERE WHAT IT READS IS OF BULK AT MOST 1048576: true; the input reads as it did. -/
def ringRingsUptoRow : OpenClaim := { program := "ytilhflfbbfeakaa", sum := "de01bb40af9d95b04a59dba41e775869b12beb899d2cf122704bfd1d1fd84526", func := "contango/contangolaw06.RingRings", spec := "ringRings", unfollowed := true, recurses := true, plainKeys := false, apart := false, narrowed := true }
def RingRingsUptoSaid : Prop := ringRingsUptoRow.holds Try.pinned (OpenSpec.upto ringRingsSpec)

/-- 'contangolaw06.RingFewest', WHERE WHAT IT READS IS OF BULK AT MOST 1048576: true; the input reads as it did. -/
def ringFewestUptoRow : OpenClaim := { program := "ytilhflfbbfeakaa", sum := "de01bb40af9d95b04a59dba41e775869b12beb899d2cf122704bfd1d1fd84526", func := "contango/contangolaw06.RingFewest", spec := "ringFewest", unfollowed := true, recurses := true, plainKeys := false, apart := false, narrowed := true }
def RingFewestUptoSaid : Prop := ringFewestUptoRow.holds Try.pinned (OpenSpec.upto ringFewestSpec)

/-- 'contangolaw06.RingLeft', WHERE WHAT IT READS IS OF BULK AT MOST 1048576: true; the input reads as it did. -/
def ringLeftUptoRow : OpenClaim := { program := "ytilhflfbbfeakaa", sum := "de01bb40af9d95b04a59dba41e775869b12beb899d2cf122704bfd1d1fd84526", func := "contango/contangolaw06.RingLeft", spec := "ringLeft", unfollowed := true, recurses := true, plainKeys := false, apart := false, narrowed := true }
def RingLeftUptoSaid : Prop := ringLeftUptoRow.holds Try.pinned (OpenSpec.upto ringLeftSpec)

/-- 'contangolaw06.RingNone', WHERE WHAT IT READS IS OF BULK AT MOST 1048576: true; the input reads as it did. -/
def ringNoneUptoRow : OpenClaim := { program := "ytilhflfbbfeakaa", sum := "de01bb40af9d95b04a59dba41e775869b12beb899d2cf122704bfd1d1fd84526", func := "contango/contangolaw06.RingNone", spec := "ringNone", unfollowed := true, recurses := true, plainKeys := false, apart := false, narrowed := true }
def RingNoneUptoSaid : Prop := ringNoneUptoRow.holds Try.pinned (OpenSpec.upto ringNoneSpec)

/-- 'contangolaw06.RingMore', WHERE WHAT IT READS IS OF BULK AT MOST 1048576: true; the input reads as it did. -/
def ringMoreUptoRow : OpenClaim := { program := "ytilhflfbbfeakaa", sum := "de01bb40af9d95b04a59dba41e775869b12beb899d2cf122704bfd1d1fd84526", func := "contango/contangolaw06.RingMore", spec := "ringMore", unfollowed := true, recurses := true, plainKeys := false, apart := false, narrowed := true }
def RingMoreUptoSaid : Prop := ringMoreUptoRow.holds Try.pinned (OpenSpec.upto ringMoreSpec)

/-- 'contangolaw06.RingTurned', WHERE WHAT IT READS IS OF BULK AT MOST 1048576: true; the input reads as it did. -/
def ringTurnedUptoRow : OpenClaim := { program := "ytilhflfbbfeakaa", sum := "de01bb40af9d95b04a59dba41e775869b12beb899d2cf122704bfd1d1fd84526", func := "contango/contangolaw06.RingTurned", spec := "ringTurned", unfollowed := true, recurses := true, plainKeys := false, apart := false, narrowed := true }
def RingTurnedUptoSaid : Prop := ringTurnedUptoRow.holds Try.pinned (OpenSpec.upto ringTurnedSpec)

/-- 'contangolaw06.RingPenny', WHERE WHAT IT READS IS OF BULK AT MOST 1048576: true; the input reads as it did. -/
def ringPennyUptoRow : OpenClaim := { program := "ytilhflfbbfeakaa", sum := "de01bb40af9d95b04a59dba41e775869b12beb899d2cf122704bfd1d1fd84526", func := "contango/contangolaw06.RingPenny", spec := "ringPenny", unfollowed := true, recurses := true, plainKeys := false, apart := false, narrowed := true }
def RingPennyUptoSaid : Prop := ringPennyUptoRow.holds Try.pinned (OpenSpec.upto ringPennySpec)

/-- 'contangolaw06.RingCosts', WHERE WHAT IT READS IS OF BULK AT MOST 1048576: true; the input reads as it did. -/
def ringCostsUptoRow : OpenClaim := { program := "ytilhflfbbfeakaa", sum := "de01bb40af9d95b04a59dba41e775869b12beb899d2cf122704bfd1d1fd84526", func := "contango/contangolaw06.RingCosts", spec := "ringCosts", unfollowed := true, recurses := true, plainKeys := false, apart := false, narrowed := true }
def RingCostsUptoSaid : Prop := ringCostsUptoRow.holds Try.pinned (OpenSpec.upto ringCostsSpec)

/-- 'contangolaw06.RingProves', WHERE WHAT IT READS IS OF BULK AT MOST 1048576: true; the input reads as it did. -/
def ringProvesUptoRow : OpenClaim := { program := "ytilhflfbbfeakaa", sum := "de01bb40af9d95b04a59dba41e775869b12beb899d2cf122704bfd1d1fd84526", func := "contango/contangolaw06.RingProves", spec := "ringProves", unfollowed := true, recurses := true, plainKeys := false, apart := false, narrowed := true }
def RingProvesUptoSaid : Prop := ringProvesUptoRow.holds Try.pinned (OpenSpec.upto ringProvesSpec)

/-- 'contangolaw06.RingNames', WHERE WHAT IT READS IS OF BULK AT MOST 1048576: true; the input reads as it did. -/
def ringNamesUptoRow : OpenClaim := { program := "ytilhflfbbfeakaa", sum := "de01bb40af9d95b04a59dba41e775869b12beb899d2cf122704bfd1d1fd84526", func := "contango/contangolaw06.RingNames", spec := "ringNames", unfollowed := true, recurses := true, plainKeys := false, apart := false, narrowed := true }
def RingNamesUptoSaid : Prop := ringNamesUptoRow.holds Try.pinned (OpenSpec.upto ringNamesSpec)

/-- 'contangolaw06.RingSmallest', WHERE WHAT IT READS IS OF BULK AT MOST 1048576: true; the input reads as it did. -/
def ringSmallestUptoRow : OpenClaim := { program := "ytilhflfbbfeakaa", sum := "de01bb40af9d95b04a59dba41e775869b12beb899d2cf122704bfd1d1fd84526", func := "contango/contangolaw06.RingSmallest", spec := "ringSmallest", unfollowed := true, recurses := true, plainKeys := false, apart := false, narrowed := true }
def RingSmallestUptoSaid : Prop := ringSmallestUptoRow.holds Try.pinned (OpenSpec.upto ringSmallestSpec)

end Rows
end Go.Proofs.Ytilhflfbbfeakaa
