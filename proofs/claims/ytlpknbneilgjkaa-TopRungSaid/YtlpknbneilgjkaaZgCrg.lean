/- The law TopRung: for all arguments it returns true. The arguments are opened as plain data, its walk is a call over trees; nothing that was there is written. -/
import Derived.Test.YtlpknbneilgjkaaRows
import Derived.WalkKit
import Derived.ProofKit
import Derived.OpenShut
import Derived.WideKeyArgs
import Derived.Test.YtlpknbneilgjkaaEvP
import Derived.Test.YtlpknbneilgjkaaZgRFr
import Derived.Test.YtlpknbneilgjkaaZgCGHf
import Derived.Test.YtlpknbneilgjkaaZgAc
namespace Go.Proofs.Ytlpknbneilgjkaa.topRung
open Go.ChangeShapes Go.WideShapes Go.ChangeAt Go.RowKit Go.Tl
set_option linter.unusedVariables false
theorem own : ownKnob Try.prog.godebug = none := by kernel_rfl
theorem laidOut : laidOutB Try.prog = true := by kernel_rfl
theorem cells3 : Try.prog.cellsOf 3 = 1 := by kernel_rfl
set_option maxRecDepth 100000 in
theorem lifted (os : Os) (started : os.Started) (H : Type) (enc : TypeId × Value → H) :
    ReturnsInHanded {} Try.checked os 5 .any (Rows.topRungSpec.pre6 enc Try.prog Try.f5 Rows.topRungRow.domain false) (Rows.topRungSpec.post enc Try.prog Try.f5 false true false false) := by
  refine returnsInHanded_of_change (C := Try.checked) own started (by kernel_rfl) Try.func5
    (ChangeSpec.witness6 (enc := enc) (C := Try.checked) false ⟨#[], #[.agg #[.int .i64 0, .slice none 0 0, .slice none 0 0], .agg #[.int .i64 0, .slice none 0 0]], []⟩ 8 (by kernel_rfl) (by kernel_rfl) (by kernel_rfl) (by kernel_rfl)) ?_
  intro W base args ds gs before hval0 hW hcnd _
  have hval : ∀ (j : Nat) t v, Try.f5.params[j]? = some t → args[j]? = some v → Value.okWide Try.prog W .any base t v := hval0
  have hW' := hW
  obtain ⟨p, q, hA0, hV, rfl, hfz, hnd⟩ := hW
  have hA : DataW.TrodAll enc Try.prog W 0 (fun _ => true) true Try.f5.params.toList args.toList ds p := hA0
  rw [Try.params5] at hA hval
  obtain ⟨v0, vs0, d0, ds0, p0, q0, hvs0, rfl, rfl, h0, hA1⟩ := trodAll_cons hA
  obtain ⟨v1, vs1, d1, ds1, p1, q1, hvs1, rfl, rfl, h1, hA2⟩ := trodAll_cons hA1
  obtain ⟨rfl, rfl, rfl⟩ := trodAll_nil hA2
  subst hvs1
  obtain rfl : args = #[v0, v1] := by apply Array.ext'; simpa using hvs0
  clear hvs0
  obtain ⟨rfl, rfl⟩ := trodVars_none hV
  obtain ⟨cs0, rfl, hsz0⟩ := okWide_struct Try.underlying119 (hval 0 119 v0 rfl rfl)
  obtain ⟨f0, g0⟩ := id h0
  obtain ⟨b0, a0, c0, aa0, cc0, e0, hl0, hK0, hC0⟩ := C.open_market g0
  have k0 : cs0 = #[.int .i64 b0.ex, .slice a0 b0.hou.length c0, .slice aa0 b0.con.length cc0] := by apply Array.ext'; simpa [Value.cells] using e0
  subst k0
  obtain ⟨cs1, rfl, hsz1⟩ := okWide_struct Try.underlying81 (hval 1 81 v1 rfl rfl)
  obtain ⟨f1, g1⟩ := id h1
  obtain ⟨b1, a1, c1, e1, hl1, hK1⟩ := R.open_book g1
  have k1 : cs1 = #[.int .i64 b1.houses, .slice a1 b1.cons.length c1] := by apply Array.ext'; simpa [Value.cells] using e1
  subst k1
  clear hA0 hval0
  simp only [List.append_nil] at hW'
  have hw := pcall_calls (TopRung_p b0 b1 hl0.1 hl0.2 hl1) (rels_cons (C.market_in (c := c0) (c' := cc0) hK0 hC0) (rels_cons (R.book_in (c := c1) hK1) rels_nil)) (v := .bool true) (fun r hr => hr)
  refine hw.mono fun e W' ⟨he, hg⟩ => ?_
  subst he
  have hlt := hW'.lt
  have hsame : ∀ x ∈ p0 ++ p1, W.sameAt W' x := fun x hx => hg.same (hlt x hx)
  exact ⟨_, rfl, Ev.post_of_below (pa := p0 ++ p1) (pv := []) hW' (fun _ _ _ => (trodAll_cons_mk (shut_bool Try.underlying4 _) trodAll_mk0))
    (fun sp hsp => by
      rw [Try.params5]
      exact (trodAll_cons_mk (WideElems.Trod_stays laidOut (by kernel_rfl) (of_decide_eq_true (by kernel_rfl)) h0 (fun x hx => hsame x (List.mem_append_left _ hx)) (fun x hx => hsp x (List.mem_append_left _ hx)))
        (trodAll_mk1 (WideElems.Trod_stays laidOut (by kernel_rfl) (of_decide_eq_true (by kernel_rfl)) h1 (fun x hx => hsame x (List.mem_append_right _ hx)) (fun x hx => hsp x (List.mem_append_right _ hx))))))
    (fun _ _ => rfl) (by simp)
    hg (ok_one (by kernel_rfl) rfl (okWide_bool_mk Try.underlying4 _))⟩
theorem over : Rows.topRungRow.holds Try.pinned (OpenSpec.ofChange Rows.topRungSpec) :=
  OpenClaim.holds_of_wide 5 Try.f5 rfl rfl rfl rfl rfl rfl rfl ⟨rfl, rfl, rfl, rfl, rfl⟩ rfl rfl rfl rfl rfl (by kernel_rfl) Try.func5 (by kernel_rfl)
    (of_decide_eq_true (by kernel_rfl)) (by unfold Func.isWrapper; first | (rw [if_pos (by decide +kernel)]; kernel_rfl) | (rw [if_neg (by decide +kernel)]; exact ⟨rfl, rfl⟩))
    (fun os started H enc _ => lifted os started H enc)
theorem proved : Rows.TopRungSaid :=
  over
#print axioms proved
end Go.Proofs.Ytlpknbneilgjkaa.topRung
