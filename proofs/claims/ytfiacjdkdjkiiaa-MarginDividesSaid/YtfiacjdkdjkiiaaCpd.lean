/- The law MarginDivides: for all arguments it returns true. The arguments are opened as plain data, its walk is a call over trees; nothing that was there is written. -/
import Derived.Test.YtfiacjdkdjkiiaaRows
import Derived.WalkKit
import Derived.ProofKit
import Derived.OpenShut
import Derived.WideKeyArgs
import Derived.Test.YtfiacjdkdjkiiaaEvP
import Derived.Test.YtfiacjdkdjkiiaaEvaw
import Derived.Test.YtfiacjdkdjkiiaaGCo
import Derived.Test.YtfiacjdkdjkiiaaPd
namespace Go.Proofs.Ytfiacjdkdjkiiaa.marginDivides
open Go.ChangeShapes Go.WideShapes Go.ChangeAt Go.RowKit Go.Tl
set_option linter.unusedVariables false
theorem own : ownKnob Try.prog.godebug = none := by kernel_rfl
theorem laidOut : laidOutB Try.prog = true := by kernel_rfl
theorem cells94 : Try.prog.cellsOf 94 = 1 := by kernel_rfl
theorem awake_p : PCall Try.prog 18 [] (fun r => r = boolA true) := pcall_below fun w S vs hvs => by
  obtain rfl := rels0 hvs
  exact (aw_calls w).mono fun e w' ⟨e1, hb⟩ => ⟨_, _, e1, rfl, hb, .v _⟩
set_option maxRecDepth 100000 in
theorem lifted (os : Os) (started : os.Started) (H : Type) (enc : TypeId × Value → H) :
    ReturnsInHanded {} Try.checked os 12 .any (Rows.marginDividesSpec.pre6 enc Try.prog Try.f12 Rows.marginDividesRow.domain false) (Rows.marginDividesSpec.post enc Try.prog Try.f12 false true false false) := by
  refine returnsInHanded_of_change (C := Try.checked) own started (by kernel_rfl) Try.func12
    (ChangeSpec.witness6 (enc := enc) (C := Try.checked) false ⟨#[], #[.slice none 0 0, .int .u32 0], []⟩ 8 (by kernel_rfl) (by kernel_rfl) (by kernel_rfl) (by kernel_rfl)) ?_
  intro W base args ds gs before hval0 hW hcnd _
  have hval : ∀ (j : Nat) t v, Try.f12.params[j]? = some t → args[j]? = some v → Value.okWide Try.prog W .any base t v := hval0
  have hW' := hW
  obtain ⟨p, q, hA0, hV, rfl, hfz, hnd⟩ := hW
  have hA : DataW.TrodAll enc Try.prog W 0 (fun _ => true) true Try.f12.params.toList args.toList ds p := hA0
  rw [Try.params12] at hA hval
  obtain ⟨v0, vs0, d0, ds0, p0, q0, hvs0, rfl, rfl, h0, hA1⟩ := trodAll_cons hA
  obtain ⟨v1, vs1, d1, ds1, p1, q1, hvs1, rfl, rfl, h1, hA2⟩ := trodAll_cons hA1
  obtain ⟨rfl, rfl, rfl⟩ := trodAll_nil hA2
  subst hvs1
  obtain rfl : args = #[v0, v1] := by apply Array.ext'; simpa using hvs0
  clear hvs0
  obtain ⟨rfl, rfl⟩ := trodVars_none hV
  obtain ⟨sa0, sl0, sc0, rfl⟩ := okWide_slice Try.underlying93 (hval 0 93 v0 rfl rfl)
  obtain ⟨f0, g0⟩ := id h0
  obtain ⟨a0, c0, l0, e0, hl0, hK0, hw0⟩ := open_kints (k := .u32) Try.underlying93 Try.underlying94 cells94 g0
  simp [Value.cells] at e0
  obtain ⟨rfl, rfl, rfl⟩ := e0
  obtain ⟨n1, rfl⟩ := okWide_int Try.underlying94 (hval 1 94 v1 rfl rfl)
  obtain ⟨f1, g1⟩ := id h1
  have w1 : (.u32 : IntKind).min ≤ n1 ∧ n1 ≤ (.u32 : IntKind).max := by
    obtain ⟨m, e, _, hw⟩ := DataW.trod_int Try.underlying94 g1
    simp [Value.cells] at e
    subst e
    exact wf_in hw
  clear hA0 hval0
  simp only [List.append_nil] at hW'
  have hw := pcall_calls (divides_p awake_p l0 n1 hl0 hw0 w1.1 w1.2) (rels_cons (.t (kints_in (c := sc0) hK0)) (rels_cons (.v _) rels_nil)) (v := .bool true) (fun r hr => hr)
  refine hw.mono fun e W' ⟨he, hg⟩ => ?_
  subst he
  have hlt := hW'.lt
  have hsame : ∀ x ∈ p0 ++ p1, W.sameAt W' x := fun x hx => hg.same (hlt x hx)
  exact ⟨_, rfl, Ev.post_of_below (pa := p0 ++ p1) (pv := []) hW' (fun _ _ _ => (trodAll_cons_mk (shut_bool Try.underlying4 _) trodAll_mk0))
    (fun sp hsp => by
      rw [Try.params12]
      exact (trodAll_cons_mk (WideElems.Trod_stays laidOut (by kernel_rfl) (of_decide_eq_true (by kernel_rfl)) h0 (fun x hx => hsame x (List.mem_append_left _ hx)) (fun x hx => hsp x (List.mem_append_left _ hx)))
        (trodAll_mk1 (WideElems.Trod_stays laidOut (by kernel_rfl) (of_decide_eq_true (by kernel_rfl)) h1 (fun x hx => hsame x (List.mem_append_right _ hx)) (fun x hx => hsp x (List.mem_append_right _ hx))))))
    (fun _ _ => rfl) (by simp)
    hg (ok_one (by kernel_rfl) rfl (okWide_bool_mk Try.underlying4 _))⟩
theorem over : Rows.marginDividesRow.holds Try.pinned (OpenSpec.ofChange Rows.marginDividesSpec) :=
  OpenClaim.holds_of_wide 12 Try.f12 rfl rfl rfl rfl rfl rfl rfl ⟨rfl, rfl, rfl, rfl, rfl⟩ rfl rfl rfl rfl rfl (by kernel_rfl) Try.func12 (by kernel_rfl)
    (of_decide_eq_true (by kernel_rfl)) (by unfold Func.isWrapper; first | (rw [if_pos (by decide +kernel)]; kernel_rfl) | (rw [if_neg (by decide +kernel)]; exact ⟨rfl, rfl⟩))
    (fun os started H enc _ => lifted os started H enc)
theorem proved : Rows.MarginDividesSaid :=
  over
#print axioms proved
end Go.Proofs.Ytfiacjdkdjkiiaa.marginDivides
