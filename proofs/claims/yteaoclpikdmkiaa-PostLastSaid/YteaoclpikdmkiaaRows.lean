/-
  No cell of these rows narrows 'for every input' (looked for: loops, veiled, ifaces, maps, wideKeys, modest, calm, conditions, laid).
  DERIVED. THE GIVEN ROWS OF THIS SEAT. 14 by the template 'for every input the law returns true; each argument reads behind the call as it read before'; 0 by the template 'total and deterministic' (their statements: YteaoclpikdmkiaaTotals.lean).
  GIVEN WITH THE SEED: the statements are not yours to turn. If you find one false, say at which input.
  Laid BY PROGRAM, IN A SANDBOX (cutbox-rows.mjs): the forced cells as the released guide's own fill.sh prints them over the translation e5b12ef925059f5c… (all of the seat's roots in one cut). By AI agents, Wed Nov 11 2026. No macro, syntax, notation, axiom, sorry.
-/
import Derived.Test.YteaoclpikdmkiaaChecked
import GoSem.Claim
import GoSem.ClaimJoined
import GoSem.ClaimMapViews
import Derived.JoinedTies
import Derived.KernelRfl
namespace Go.Proofs.Yteaoclpikdmkiaa
/- THE CELL 'sum', in the pinned program and in every row, IS THE sha256 OF THE DUMP (.gsa) THAT YteaoclpikdmkiaaProg.lean LOADS. Nothing in Lean hashes anything: it is a label: what it is worth is what the hold of that sum in a sandbox is worth. -/
noncomputable def Try.pinned : Pinned := { name := "yteaoclpikdmkiaa", sum := "e5b12ef925059f5c6f46253ebbfac18e39f472b350ad556d27af0de74365aecb", checked := Try.checked }
namespace Rows
def none {H : Type} : Left H := { results := [], args := [] }

/-- 'contangolaw10.PostPlays': WHATEVER THE INPUT: true; the input reads as it did. -/
def postPlaysSpec : ChangeSpec := { name := "postPlays", fn := fun _ => fun
  | [d1, d2] => { results := [.lit (.bool true)], args := [d1, d2] }
  | _ => none }
def postPlaysRow : OpenClaim := { program := "yteaoclpikdmkiaa", sum := "e5b12ef925059f5c6f46253ebbfac18e39f472b350ad556d27af0de74365aecb", func := "contango/contangolaw10.PostPlays", spec := "postPlays", unfollowed := true, recurses := true, plainKeys := false, apart := false }
def PostPlaysSaid : Prop := postPlaysRow.holds Try.pinned (OpenSpec.ofChange postPlaysSpec)

/-- ITS FALSE NEIGHBOUR: 'it returns false'. Refute it at one input. -/
def postPlaysWrong : ChangeSpec := { name := "postPlays", fn := fun _ => fun
  | [d1, d2] => { results := [.lit (.bool false)], args := [d1, d2] }
  | _ => none }
def PostPlaysWrongFalsely : Prop := postPlaysRow.holds Try.pinned (OpenSpec.ofChange postPlaysWrong)

/-- 'contangolaw10.PostFills': WHATEVER THE INPUT: true; the input reads as it did. -/
def postFillsSpec : ChangeSpec := { name := "postFills", fn := fun _ => fun
  | [d] => { results := [.lit (.bool true)], args := [d] }
  | _ => none }
def postFillsRow : OpenClaim := { program := "yteaoclpikdmkiaa", sum := "e5b12ef925059f5c6f46253ebbfac18e39f472b350ad556d27af0de74365aecb", func := "contango/contangolaw10.PostFills", spec := "postFills", unfollowed := true, recurses := true, plainKeys := false, apart := false }
def PostFillsSaid : Prop := postFillsRow.holds Try.pinned (OpenSpec.ofChange postFillsSpec)

/-- ITS FALSE NEIGHBOUR: 'it returns false'. Refute it at one input. -/
def postFillsWrong : ChangeSpec := { name := "postFills", fn := fun _ => fun
  | [d] => { results := [.lit (.bool false)], args := [d] }
  | _ => none }
def PostFillsWrongFalsely : Prop := postFillsRow.holds Try.pinned (OpenSpec.ofChange postFillsWrong)

/-- 'contangolaw10.PostOpens': WHATEVER THE INPUT: true; the input reads as it did. -/
def postOpensSpec : ChangeSpec := { name := "postOpens", fn := fun _ => fun
  | [d] => { results := [.lit (.bool true)], args := [d] }
  | _ => none }
def postOpensRow : OpenClaim := { program := "yteaoclpikdmkiaa", sum := "e5b12ef925059f5c6f46253ebbfac18e39f472b350ad556d27af0de74365aecb", func := "contango/contangolaw10.PostOpens", spec := "postOpens", unfollowed := true, recurses := true, plainKeys := false, apart := false }
def PostOpensSaid : Prop := postOpensRow.holds Try.pinned (OpenSpec.ofChange postOpensSpec)

/-- ITS FALSE NEIGHBOUR: 'it returns false'. Refute it at one input. -/
def postOpensWrong : ChangeSpec := { name := "postOpens", fn := fun _ => fun
  | [d] => { results := [.lit (.bool false)], args := [d] }
  | _ => none }
def PostOpensWrongFalsely : Prop := postOpensRow.holds Try.pinned (OpenSpec.ofChange postOpensWrong)

/-- 'contangolaw10.PostExplains': WHATEVER THE INPUT: true; the input reads as it did. -/
def postExplainsSpec : ChangeSpec := { name := "postExplains", fn := fun _ => fun
  | [d1, d2] => { results := [.lit (.bool true)], args := [d1, d2] }
  | _ => none }
def postExplainsRow : OpenClaim := { program := "yteaoclpikdmkiaa", sum := "e5b12ef925059f5c6f46253ebbfac18e39f472b350ad556d27af0de74365aecb", func := "contango/contangolaw10.PostExplains", spec := "postExplains", unfollowed := true, recurses := true, plainKeys := false, apart := false }
def PostExplainsSaid : Prop := postExplainsRow.holds Try.pinned (OpenSpec.ofChange postExplainsSpec)

/-- ITS FALSE NEIGHBOUR: 'it returns false'. Refute it at one input. -/
def postExplainsWrong : ChangeSpec := { name := "postExplains", fn := fun _ => fun
  | [d1, d2] => { results := [.lit (.bool false)], args := [d1, d2] }
  | _ => none }
def PostExplainsWrongFalsely : Prop := postExplainsRow.holds Try.pinned (OpenSpec.ofChange postExplainsWrong)

/-- 'contangolaw10.PostProves': WHATEVER THE INPUT: true; the input reads as it did. -/
def postProvesSpec : ChangeSpec := { name := "postProves", fn := fun _ => fun
  | [d1, d2, d3] => { results := [.lit (.bool true)], args := [d1, d2, d3] }
  | _ => none }
def postProvesRow : OpenClaim := { program := "yteaoclpikdmkiaa", sum := "e5b12ef925059f5c6f46253ebbfac18e39f472b350ad556d27af0de74365aecb", func := "contango/contangolaw10.PostProves", spec := "postProves", unfollowed := true, recurses := true, plainKeys := false, apart := false }
def PostProvesSaid : Prop := postProvesRow.holds Try.pinned (OpenSpec.ofChange postProvesSpec)

/-- ITS FALSE NEIGHBOUR: 'it returns false'. Refute it at one input. -/
def postProvesWrong : ChangeSpec := { name := "postProves", fn := fun _ => fun
  | [d1, d2, d3] => { results := [.lit (.bool false)], args := [d1, d2, d3] }
  | _ => none }
def PostProvesWrongFalsely : Prop := postProvesRow.holds Try.pinned (OpenSpec.ofChange postProvesWrong)

/-- 'contangolaw10.PostNames': WHATEVER THE INPUT: true; the input reads as it did. -/
def postNamesSpec : ChangeSpec := { name := "postNames", fn := fun _ => fun
  | [] => { results := [.lit (.bool true)], args := [] }
  | _ => none }
def postNamesRow : OpenClaim := { program := "yteaoclpikdmkiaa", sum := "e5b12ef925059f5c6f46253ebbfac18e39f472b350ad556d27af0de74365aecb", func := "contango/contangolaw10.PostNames", spec := "postNames", unfollowed := true, recurses := true, plainKeys := false, apart := false }
def PostNamesSaid : Prop := postNamesRow.holds Try.pinned (OpenSpec.ofChange postNamesSpec)

/-- ITS FALSE NEIGHBOUR: 'it returns false'. Refute it at one input. -/
def postNamesWrong : ChangeSpec := { name := "postNames", fn := fun _ => fun
  | [] => { results := [.lit (.bool false)], args := [] }
  | _ => none }
def PostNamesWrongFalsely : Prop := postNamesRow.holds Try.pinned (OpenSpec.ofChange postNamesWrong)

/-- 'contangolaw10.PostTruth': WHATEVER THE INPUT: true; the input reads as it did. -/
def postTruthSpec : ChangeSpec := { name := "postTruth", fn := fun _ => fun
  | [d1, d2, d3] => { results := [.lit (.bool true)], args := [d1, d2, d3] }
  | _ => none }
def postTruthRow : OpenClaim := { program := "yteaoclpikdmkiaa", sum := "e5b12ef925059f5c6f46253ebbfac18e39f472b350ad556d27af0de74365aecb", func := "contango/contangolaw10.PostTruth", spec := "postTruth", unfollowed := true, recurses := true, plainKeys := false, apart := false }
def PostTruthSaid : Prop := postTruthRow.holds Try.pinned (OpenSpec.ofChange postTruthSpec)

/-- ITS FALSE NEIGHBOUR: 'it returns false'. Refute it at one input. -/
def postTruthWrong : ChangeSpec := { name := "postTruth", fn := fun _ => fun
  | [d1, d2, d3] => { results := [.lit (.bool false)], args := [d1, d2, d3] }
  | _ => none }
def PostTruthWrongFalsely : Prop := postTruthRow.holds Try.pinned (OpenSpec.ofChange postTruthWrong)

/-- 'contangolaw10.PostFair': WHATEVER THE INPUT: true; the input reads as it did. -/
def postFairSpec : ChangeSpec := { name := "postFair", fn := fun _ => fun
  | [d1, d2] => { results := [.lit (.bool true)], args := [d1, d2] }
  | _ => none }
def postFairRow : OpenClaim := { program := "yteaoclpikdmkiaa", sum := "e5b12ef925059f5c6f46253ebbfac18e39f472b350ad556d27af0de74365aecb", func := "contango/contangolaw10.PostFair", spec := "postFair", unfollowed := true, recurses := true, plainKeys := false, apart := false }
def PostFairSaid : Prop := postFairRow.holds Try.pinned (OpenSpec.ofChange postFairSpec)

/-- ITS FALSE NEIGHBOUR: 'it returns false'. Refute it at one input. -/
def postFairWrong : ChangeSpec := { name := "postFair", fn := fun _ => fun
  | [d1, d2] => { results := [.lit (.bool false)], args := [d1, d2] }
  | _ => none }
def PostFairWrongFalsely : Prop := postFairRow.holds Try.pinned (OpenSpec.ofChange postFairWrong)

/-- 'contangolaw10.PostFirst': WHATEVER THE INPUT: true; the input reads as it did. -/
def postFirstSpec : ChangeSpec := { name := "postFirst", fn := fun _ => fun
  | [d1, d2, d3] => { results := [.lit (.bool true)], args := [d1, d2, d3] }
  | _ => none }
def postFirstRow : OpenClaim := { program := "yteaoclpikdmkiaa", sum := "e5b12ef925059f5c6f46253ebbfac18e39f472b350ad556d27af0de74365aecb", func := "contango/contangolaw10.PostFirst", spec := "postFirst", unfollowed := true, recurses := true, plainKeys := false, apart := false }
def PostFirstSaid : Prop := postFirstRow.holds Try.pinned (OpenSpec.ofChange postFirstSpec)

/-- ITS FALSE NEIGHBOUR: 'it returns false'. Refute it at one input. -/
def postFirstWrong : ChangeSpec := { name := "postFirst", fn := fun _ => fun
  | [d1, d2, d3] => { results := [.lit (.bool false)], args := [d1, d2, d3] }
  | _ => none }
def PostFirstWrongFalsely : Prop := postFirstRow.holds Try.pinned (OpenSpec.ofChange postFirstWrong)

/-- 'contangolaw10.PostTurned': WHATEVER THE INPUT: true; the input reads as it did. -/
def postTurnedSpec : ChangeSpec := { name := "postTurned", fn := fun _ => fun
  | [d1, d2] => { results := [.lit (.bool true)], args := [d1, d2] }
  | _ => none }
def postTurnedRow : OpenClaim := { program := "yteaoclpikdmkiaa", sum := "e5b12ef925059f5c6f46253ebbfac18e39f472b350ad556d27af0de74365aecb", func := "contango/contangolaw10.PostTurned", spec := "postTurned", unfollowed := true, recurses := true, plainKeys := false, apart := false }
def PostTurnedSaid : Prop := postTurnedRow.holds Try.pinned (OpenSpec.ofChange postTurnedSpec)

/-- ITS FALSE NEIGHBOUR: 'it returns false'. Refute it at one input. -/
def postTurnedWrong : ChangeSpec := { name := "postTurned", fn := fun _ => fun
  | [d1, d2] => { results := [.lit (.bool false)], args := [d1, d2] }
  | _ => none }
def PostTurnedWrongFalsely : Prop := postTurnedRow.holds Try.pinned (OpenSpec.ofChange postTurnedWrong)

/-- 'contangolaw10.PostWider': WHATEVER THE INPUT: true; the input reads as it did. -/
def postWiderSpec : ChangeSpec := { name := "postWider", fn := fun _ => fun
  | [d1, d2, d3, d4] => { results := [.lit (.bool true)], args := [d1, d2, d3, d4] }
  | _ => none }
def postWiderRow : OpenClaim := { program := "yteaoclpikdmkiaa", sum := "e5b12ef925059f5c6f46253ebbfac18e39f472b350ad556d27af0de74365aecb", func := "contango/contangolaw10.PostWider", spec := "postWider", unfollowed := true, recurses := true, plainKeys := false, apart := false }
def PostWiderSaid : Prop := postWiderRow.holds Try.pinned (OpenSpec.ofChange postWiderSpec)

/-- ITS FALSE NEIGHBOUR: 'it returns false'. Refute it at one input. -/
def postWiderWrong : ChangeSpec := { name := "postWider", fn := fun _ => fun
  | [d1, d2, d3, d4] => { results := [.lit (.bool false)], args := [d1, d2, d3, d4] }
  | _ => none }
def PostWiderWrongFalsely : Prop := postWiderRow.holds Try.pinned (OpenSpec.ofChange postWiderWrong)

/-- 'contangolaw10.PostLast': WHATEVER THE INPUT: true; the input reads as it did. -/
def postLastSpec : ChangeSpec := { name := "postLast", fn := fun _ => fun
  | [d1, d2, d3] => { results := [.lit (.bool true)], args := [d1, d2, d3] }
  | _ => none }
def postLastRow : OpenClaim := { program := "yteaoclpikdmkiaa", sum := "e5b12ef925059f5c6f46253ebbfac18e39f472b350ad556d27af0de74365aecb", func := "contango/contangolaw10.PostLast", spec := "postLast", unfollowed := true, recurses := true, plainKeys := false, apart := false }
def PostLastSaid : Prop := postLastRow.holds Try.pinned (OpenSpec.ofChange postLastSpec)

/-- ITS FALSE NEIGHBOUR: 'it returns false'. Refute it at one input. -/
def postLastWrong : ChangeSpec := { name := "postLast", fn := fun _ => fun
  | [d1, d2, d3] => { results := [.lit (.bool false)], args := [d1, d2, d3] }
  | _ => none }
def PostLastWrongFalsely : Prop := postLastRow.holds Try.pinned (OpenSpec.ofChange postLastWrong)

/-- 'contangolaw10.PostCertain': WHATEVER THE INPUT: true; the input reads as it did. -/
def postCertainSpec : ChangeSpec := { name := "postCertain", fn := fun _ => fun
  | [d1, d2] => { results := [.lit (.bool true)], args := [d1, d2] }
  | _ => none }
def postCertainRow : OpenClaim := { program := "yteaoclpikdmkiaa", sum := "e5b12ef925059f5c6f46253ebbfac18e39f472b350ad556d27af0de74365aecb", func := "contango/contangolaw10.PostCertain", spec := "postCertain", unfollowed := true, recurses := true, plainKeys := false, apart := false }
def PostCertainSaid : Prop := postCertainRow.holds Try.pinned (OpenSpec.ofChange postCertainSpec)

/-- ITS FALSE NEIGHBOUR: 'it returns false'. Refute it at one input. -/
def postCertainWrong : ChangeSpec := { name := "postCertain", fn := fun _ => fun
  | [d1, d2] => { results := [.lit (.bool false)], args := [d1, d2] }
  | _ => none }
def PostCertainWrongFalsely : Prop := postCertainRow.holds Try.pinned (OpenSpec.ofChange postCertainWrong)

/-- 'contangolaw10.PostLeft': WHATEVER THE INPUT: true; the input reads as it did. -/
def postLeftSpec : ChangeSpec := { name := "postLeft", fn := fun _ => fun
  | [d1, d2, d3] => { results := [.lit (.bool true)], args := [d1, d2, d3] }
  | _ => none }
def postLeftRow : OpenClaim := { program := "yteaoclpikdmkiaa", sum := "e5b12ef925059f5c6f46253ebbfac18e39f472b350ad556d27af0de74365aecb", func := "contango/contangolaw10.PostLeft", spec := "postLeft", unfollowed := true, recurses := true, plainKeys := false, apart := false }
def PostLeftSaid : Prop := postLeftRow.holds Try.pinned (OpenSpec.ofChange postLeftSpec)

/-- ITS FALSE NEIGHBOUR: 'it returns false'. Refute it at one input. -/
def postLeftWrong : ChangeSpec := { name := "postLeft", fn := fun _ => fun
  | [d1, d2, d3] => { results := [.lit (.bool false)], args := [d1, d2, d3] }
  | _ => none }
def PostLeftWrongFalsely : Prop := postLeftRow.holds Try.pinned (OpenSpec.ofChange postLeftWrong)

/- THE SECOND FORM. 'bulk': how many values and letters a reading holds, each counted each time it is reached (what is shared counts as often as it is met; a slice's spare places count too). A statement '..UptoSaid' is the law's where the arguments, and the package variables that the reading takes, are together of bulk at most 1048576: NARROWER than '..Said'. Prove '..Said' where nothing that the law and all that it calls make is longer than what came in: it says more and counts as full. Else prove '..UptoSaid'. A law counts once. -/
mutual
def uptoBulk {H : Type} : DataW H → Nat
  | .lit (.string bytes) => bytes.length + 1
  | .lit _ => 1
  | .nil => 1
  | .ptr d => uptoBulk d + 1
  | .slice elems spare => uptoBulkAll elems + uptoBulkAll spare + 1
  | .agg parts => uptoBulkAll parts + 1
  | .iface _ d => uptoBulk d + 1
  | .map entries => uptoBulkEntries entries + 1
  | .held _ => 1
def uptoBulkAll {H : Type} : List (DataW H) → Nat
  | [] => 0
  | d :: r => uptoBulk d + uptoBulkAll r
def uptoBulkEntries {H : Type} : List (Lit × DataW H) → Nat
  | [] => 0
  | x :: r => uptoBulkEntry x + uptoBulkEntries r
def uptoBulkEntry {H : Type} : Lit × DataW H → Nat
  | (.string bytes, d) => bytes.length + uptoBulk d + 1
  | (_, d) => uptoBulk d + 1
 end
def uptoSmall : (H : Type) → List (DataW H) → Bool := fun _ ds => decide (uptoBulkAll ds ≤ 1048576)
def OpenSpec.upto (s : _root_.Go.ChangeSpec) : _root_.Go.OpenSpec := { _root_.Go.OpenSpec.ofChange s with cond := some uptoSmall }

/-- 'contangolaw10.PostPlays', WHERE WHAT IT READS IS OF BULK AT MOST 1048576: true; the input reads as it did. -/
def postPlaysUptoRow : OpenClaim := { program := "yteaoclpikdmkiaa", sum := "e5b12ef925059f5c6f46253ebbfac18e39f472b350ad556d27af0de74365aecb", func := "contango/contangolaw10.PostPlays", spec := "postPlays", unfollowed := true, recurses := true, plainKeys := false, apart := false, narrowed := true }
def PostPlaysUptoSaid : Prop := postPlaysUptoRow.holds Try.pinned (OpenSpec.upto postPlaysSpec)

/-- 'contangolaw10.PostFills', WHERE WHAT IT READS IS OF BULK AT MOST 1048576: true; the input reads as it did. -/
def postFillsUptoRow : OpenClaim := { program := "yteaoclpikdmkiaa", sum := "e5b12ef925059f5c6f46253ebbfac18e39f472b350ad556d27af0de74365aecb", func := "contango/contangolaw10.PostFills", spec := "postFills", unfollowed := true, recurses := true, plainKeys := false, apart := false, narrowed := true }
def PostFillsUptoSaid : Prop := postFillsUptoRow.holds Try.pinned (OpenSpec.upto postFillsSpec)

/-- 'contangolaw10.PostOpens', WHERE WHAT IT READS IS OF BULK AT MOST 1048576: true; the input reads as it did. -/
def postOpensUptoRow : OpenClaim := { program := "yteaoclpikdmkiaa", sum := "e5b12ef925059f5c6f46253ebbfac18e39f472b350ad556d27af0de74365aecb", func := "contango/contangolaw10.PostOpens", spec := "postOpens", unfollowed := true, recurses := true, plainKeys := false, apart := false, narrowed := true }
def PostOpensUptoSaid : Prop := postOpensUptoRow.holds Try.pinned (OpenSpec.upto postOpensSpec)

/-- 'contangolaw10.PostExplains', WHERE WHAT IT READS IS OF BULK AT MOST 1048576: true; the input reads as it did. -/
def postExplainsUptoRow : OpenClaim := { program := "yteaoclpikdmkiaa", sum := "e5b12ef925059f5c6f46253ebbfac18e39f472b350ad556d27af0de74365aecb", func := "contango/contangolaw10.PostExplains", spec := "postExplains", unfollowed := true, recurses := true, plainKeys := false, apart := false, narrowed := true }
def PostExplainsUptoSaid : Prop := postExplainsUptoRow.holds Try.pinned (OpenSpec.upto postExplainsSpec)

/-- 'contangolaw10.PostProves', WHERE WHAT IT READS IS OF BULK AT MOST 1048576: true; the input reads as it did. -/
def postProvesUptoRow : OpenClaim := { program := "yteaoclpikdmkiaa", sum := "e5b12ef925059f5c6f46253ebbfac18e39f472b350ad556d27af0de74365aecb", func := "contango/contangolaw10.PostProves", spec := "postProves", unfollowed := true, recurses := true, plainKeys := false, apart := false, narrowed := true }
def PostProvesUptoSaid : Prop := postProvesUptoRow.holds Try.pinned (OpenSpec.upto postProvesSpec)

/-- 'contangolaw10.PostNames', WHERE WHAT IT READS IS OF BULK AT MOST 1048576: true; the input reads as it did. -/
def postNamesUptoRow : OpenClaim := { program := "yteaoclpikdmkiaa", sum := "e5b12ef925059f5c6f46253ebbfac18e39f472b350ad556d27af0de74365aecb", func := "contango/contangolaw10.PostNames", spec := "postNames", unfollowed := true, recurses := true, plainKeys := false, apart := false, narrowed := true }
def PostNamesUptoSaid : Prop := postNamesUptoRow.holds Try.pinned (OpenSpec.upto postNamesSpec)

/-- 'contangolaw10.PostTruth', WHERE WHAT IT READS IS OF BULK AT MOST 1048576: true; the input reads as it did. -/
def postTruthUptoRow : OpenClaim := { program := "yteaoclpikdmkiaa", sum := "e5b12ef925059f5c6f46253ebbfac18e39f472b350ad556d27af0de74365aecb", func := "contango/contangolaw10.PostTruth", spec := "postTruth", unfollowed := true, recurses := true, plainKeys := false, apart := false, narrowed := true }
def PostTruthUptoSaid : Prop := postTruthUptoRow.holds Try.pinned (OpenSpec.upto postTruthSpec)

/-- 'contangolaw10.PostFair', WHERE WHAT IT READS IS OF BULK AT MOST 1048576: true; the input reads as it did. -/
def postFairUptoRow : OpenClaim := { program := "yteaoclpikdmkiaa", sum := "e5b12ef925059f5c6f46253ebbfac18e39f472b350ad556d27af0de74365aecb", func := "contango/contangolaw10.PostFair", spec := "postFair", unfollowed := true, recurses := true, plainKeys := false, apart := false, narrowed := true }
def PostFairUptoSaid : Prop := postFairUptoRow.holds Try.pinned (OpenSpec.upto postFairSpec)

/-- 'contangolaw10.PostFirst', WHERE WHAT IT READS IS OF BULK AT MOST 1048576: true; the input reads as it did. -/
def postFirstUptoRow : OpenClaim := { program := "yteaoclpikdmkiaa", sum := "e5b12ef925059f5c6f46253ebbfac18e39f472b350ad556d27af0de74365aecb", func := "contango/contangolaw10.PostFirst", spec := "postFirst", unfollowed := true, recurses := true, plainKeys := false, apart := false, narrowed := true }
def PostFirstUptoSaid : Prop := postFirstUptoRow.holds Try.pinned (OpenSpec.upto postFirstSpec)

/-- 'contangolaw10.PostTurned', WHERE WHAT IT READS IS OF BULK AT MOST 1048576: true; the input reads as it did. -/
def postTurnedUptoRow : OpenClaim := { program := "yteaoclpikdmkiaa", sum := "e5b12ef925059f5c6f46253ebbfac18e39f472b350ad556d27af0de74365aecb", func := "contango/contangolaw10.PostTurned", spec := "postTurned", unfollowed := true, recurses := true, plainKeys := false, apart := false, narrowed := true }
def PostTurnedUptoSaid : Prop := postTurnedUptoRow.holds Try.pinned (OpenSpec.upto postTurnedSpec)

/-- 'contangolaw10.PostWider', WHERE WHAT IT READS IS OF BULK AT MOST 1048576: true; the input reads as it did. -/
def postWiderUptoRow : OpenClaim := { program := "yteaoclpikdmkiaa", sum := "e5b12ef925059f5c6f46253ebbfac18e39f472b350ad556d27af0de74365aecb", func := "contango/contangolaw10.PostWider", spec := "postWider", unfollowed := true, recurses := true, plainKeys := false, apart := false, narrowed := true }
def PostWiderUptoSaid : Prop := postWiderUptoRow.holds Try.pinned (OpenSpec.upto postWiderSpec)

/-- 'contangolaw10.PostLast', WHERE WHAT IT READS IS OF BULK AT MOST 1048576: true; the input reads as it did. -/
def postLastUptoRow : OpenClaim := { program := "yteaoclpikdmkiaa", sum := "e5b12ef925059f5c6f46253ebbfac18e39f472b350ad556d27af0de74365aecb", func := "contango/contangolaw10.PostLast", spec := "postLast", unfollowed := true, recurses := true, plainKeys := false, apart := false, narrowed := true }
def PostLastUptoSaid : Prop := postLastUptoRow.holds Try.pinned (OpenSpec.upto postLastSpec)

/-- 'contangolaw10.PostCertain', WHERE WHAT IT READS IS OF BULK AT MOST 1048576: true; the input reads as it did. -/
def postCertainUptoRow : OpenClaim := { program := "yteaoclpikdmkiaa", sum := "e5b12ef925059f5c6f46253ebbfac18e39f472b350ad556d27af0de74365aecb", func := "contango/contangolaw10.PostCertain", spec := "postCertain", unfollowed := true, recurses := true, plainKeys := false, apart := false, narrowed := true }
def PostCertainUptoSaid : Prop := postCertainUptoRow.holds Try.pinned (OpenSpec.upto postCertainSpec)

/-- 'contangolaw10.PostLeft', WHERE WHAT IT READS IS OF BULK AT MOST 1048576: true; the input reads as it did. -/
def postLeftUptoRow : OpenClaim := { program := "yteaoclpikdmkiaa", sum := "e5b12ef925059f5c6f46253ebbfac18e39f472b350ad556d27af0de74365aecb", func := "contango/contangolaw10.PostLeft", spec := "postLeft", unfollowed := true, recurses := true, plainKeys := false, apart := false, narrowed := true }
def PostLeftUptoSaid : Prop := postLeftUptoRow.holds Try.pinned (OpenSpec.upto postLeftSpec)

end Rows
end Go.Proofs.Yteaoclpikdmkiaa
