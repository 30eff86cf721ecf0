/- The law TopNetted: for all arguments it returns true. The arguments are opened as plain data, its walk is a call over trees; nothing that was there is written. -/
import Derived.Test.YtlpknbneilgjkaaRows
import Derived.WalkKit
import Derived.ProofKit
import Derived.OpenShut
import Derived.WideKeyArgs
import Derived.Test.YtlpknbneilgjkaaEvP
import Derived.Test.YtlpknbneilgjkaaZnROc
import Derived.Test.YtlpknbneilgjkaaZnBj
namespace Go.Proofs.Ytlpknbneilgjkaa.topNetted
open Go.ChangeShapes Go.WideShapes Go.ChangeAt Go.RowKit Go.Tl
set_option linter.unusedVariables false
theorem own : ownKnob Try.prog.godebug = none := by kernel_rfl
theorem laidOut : laidOutB Try.prog = true := by kernel_rfl
theorem cells3 : Try.prog.cellsOf 3 = 1 := by kernel_rfl
set_option maxRecDepth 100000 in
theorem lifted (os : Os) (started : os.Started) (H : Type) (enc : TypeId × Value → H) :
    ReturnsInHanded {} Try.checked os 4 .any (Rows.topNettedSpec.pre6 enc Try.prog Try.f4 Rows.topNettedRow.domain false) (Rows.topNettedSpec.post enc Try.prog Try.f4 false true false false) := by
  refine returnsInHanded_of_change (C := Try.checked) own started (by kernel_rfl) Try.func4
    (ChangeSpec.witness6 (enc := enc) (C := Try.checked) false ⟨#[], #[.agg #[.int .i64 0, .slice none 0 0]], []⟩ 8 (by kernel_rfl) (by kernel_rfl) (by kernel_rfl) (by kernel_rfl)) ?_
  intro W base args ds gs before hval0 hW hcnd _
  have hval : ∀ (j : Nat) t v, Try.f4.params[j]? = some t → args[j]? = some v → Value.okWide Try.prog W .any base t v := hval0
  have hW' := hW
  obtain ⟨p, q, hA0, hV, rfl, hfz, hnd⟩ := hW
  have hA : DataW.TrodAll enc Try.prog W 0 (fun _ => true) true Try.f4.params.toList args.toList ds p := hA0
  rw [Try.params4] at hA hval
  obtain ⟨v0, vs0, d0, ds0, p0, q0, hvs0, rfl, rfl, h0, hA1⟩ := trodAll_cons hA
  obtain ⟨rfl, rfl, rfl⟩ := trodAll_nil hA1
  obtain rfl : args = #[v0] := by apply Array.ext'; simpa using hvs0
  clear hvs0
  obtain ⟨rfl, rfl⟩ := trodVars_none hV
  obtain ⟨cs0, rfl, hsz0⟩ := okWide_struct Try.underlying81 (hval 0 81 v0 rfl rfl)
  obtain ⟨f0, g0⟩ := id h0
  obtain ⟨b0, a0, c0, e0, hl0, hK0⟩ := R.open_book g0
  have k0 : cs0 = #[.int .i64 b0.houses, .slice a0 b0.cons.length c0] := by apply Array.ext'; simpa [Value.cells] using e0
  subst k0
  clear hA0 hval0
  simp only [List.append_nil] at hW'
  have hw := pcall_calls (TopNetted_p b0 hl0) (rels_cons (R.book_in (c := c0) hK0) rels_nil) (v := .bool true) (fun r hr => hr)
  refine hw.mono fun e W' ⟨he, hg⟩ => ?_
  subst he
  have hlt := hW'.lt
  have hsame : ∀ x ∈ p0, W.sameAt W' x := fun x hx => hg.same (hlt x hx)
  exact ⟨_, rfl, Ev.post_of_below (pa := p0) (pv := []) hW' (fun _ _ _ => (trodAll_cons_mk (shut_bool Try.underlying4 _) trodAll_mk0))
    (fun sp hsp => by
      rw [Try.params4]
      exact (trodAll_mk1 (WideElems.Trod_stays laidOut (by kernel_rfl) (of_decide_eq_true (by kernel_rfl)) h0 (fun x hx => hsame x hx) (fun x hx => hsp x hx))))
    (fun _ _ => rfl) (by simp)
    hg (ok_one (by kernel_rfl) rfl (okWide_bool_mk Try.underlying4 _))⟩
theorem over : Rows.topNettedRow.holds Try.pinned (OpenSpec.ofChange Rows.topNettedSpec) :=
  OpenClaim.holds_of_wide 4 Try.f4 rfl rfl rfl rfl rfl rfl rfl ⟨rfl, rfl, rfl, rfl, rfl⟩ rfl rfl rfl rfl rfl (by kernel_rfl) Try.func4 (by kernel_rfl)
    (of_decide_eq_true (by kernel_rfl)) (by unfold Func.isWrapper; first | (rw [if_pos (by decide +kernel)]; kernel_rfl) | (rw [if_neg (by decide +kernel)]; exact ⟨rfl, rfl⟩))
    (fun os started H enc _ => lifted os started H enc)
theorem proved : Rows.TopNettedSaid :=
  over
#print axioms proved
end Go.Proofs.Ytlpknbneilgjkaa.topNetted
