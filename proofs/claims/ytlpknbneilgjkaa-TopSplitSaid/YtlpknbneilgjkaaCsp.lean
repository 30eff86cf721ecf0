/- The law TopSplit: for all arguments it returns true. The arguments are opened as plain data, its walk is a call over trees; nothing that was there is written. -/
import Derived.Test.YtlpknbneilgjkaaRows
import Derived.WalkKit
import Derived.ProofKit
import Derived.OpenShut
import Derived.WideKeyArgs
import Derived.Test.YtlpknbneilgjkaaEvP
import Derived.Test.YtlpknbneilgjkaaMOb
import Derived.Test.YtlpknbneilgjkaaMZ
import Derived.Test.YtlpknbneilgjkaaGOb
namespace Go.Proofs.Ytlpknbneilgjkaa.topSplit
open Go.ChangeShapes Go.WideShapes Go.ChangeAt Go.RowKit Go.Tl
set_option linter.unusedVariables false
theorem own : ownKnob Try.prog.godebug = none := by kernel_rfl
theorem laidOut : laidOutB Try.prog = true := by kernel_rfl
theorem cells3 : Try.prog.cellsOf 3 = 1 := by kernel_rfl
theorem cells211 : Try.prog.cellsOf 211 = 1 := by kernel_rfl
set_option maxRecDepth 100000 in
theorem lifted (os : Os) (started : os.Started) (H : Type) (enc : TypeId × Value → H) :
    ReturnsInHanded {} Try.checked os 3 .any (Rows.topSplitSpec.pre6 enc Try.prog Try.f3 Rows.topSplitRow.domain false) (Rows.topSplitSpec.post enc Try.prog Try.f3 false true false false) := by
  refine returnsInHanded_of_change (C := Try.checked) own started (by kernel_rfl) Try.func3
    (ChangeSpec.witness6 (enc := enc) (C := Try.checked) false ⟨#[], #[.agg #[.int .i64 0, .slice none 0 0, .slice none 0 0], .slice none 0 0, .int .u8 0, .int .u8 0, .int .u8 0], []⟩ 8 (by kernel_rfl) (by kernel_rfl) (by kernel_rfl) (by kernel_rfl)) ?_
  intro W base args ds gs before hval0 hW hcnd _
  have hval : ∀ (j : Nat) t v, Try.f3.params[j]? = some t → args[j]? = some v → Value.okWide Try.prog W .any base t v := hval0
  have hW' := hW
  obtain ⟨p, q, hA0, hV, rfl, hfz, hnd⟩ := hW
  have hA : DataW.TrodAll enc Try.prog W 0 (fun _ => true) true Try.f3.params.toList args.toList ds p := hA0
  rw [Try.params3] at hA hval
  obtain ⟨v0, vs0, d0, ds0, p0, q0, hvs0, rfl, rfl, h0, hA1⟩ := trodAll_cons hA
  obtain ⟨v1, vs1, d1, ds1, p1, q1, hvs1, rfl, rfl, h1, hA2⟩ := trodAll_cons hA1
  obtain ⟨v2, vs2, d2, ds2, p2, q2, hvs2, rfl, rfl, h2, hA3⟩ := trodAll_cons hA2
  obtain ⟨v3, vs3, d3, ds3, p3, q3, hvs3, rfl, rfl, h3, hA4⟩ := trodAll_cons hA3
  obtain ⟨v4, vs4, d4, ds4, p4, q4, hvs4, rfl, rfl, h4, hA5⟩ := trodAll_cons hA4
  obtain ⟨rfl, rfl, rfl⟩ := trodAll_nil hA5
  subst hvs4
  subst hvs3
  subst hvs2
  subst hvs1
  obtain rfl : args = #[v0, v1, v2, v3, v4] := by apply Array.ext'; simpa using hvs0
  clear hvs0
  obtain ⟨rfl, rfl⟩ := trodVars_none hV
  obtain ⟨cs0, rfl, hsz0⟩ := okWide_struct Try.underlying25 (hval 0 25 v0 rfl rfl)
  obtain ⟨f0, g0⟩ := id h0
  obtain ⟨b0, da0, dc0, la0, lc0, e0, hd0, hl0, hB0⟩ := M.open_bank g0
  have k0 : cs0 = #[.int .i64 b0.stocks, .slice da0 b0.days.length dc0, .slice la0 b0.loans.length lc0] := by apply Array.ext'; simpa [Value.cells] using e0
  subst k0
  obtain ⟨sa1, sl1, sc1, rfl⟩ := okWide_slice Try.underlying26 (hval 1 26 v1 rfl rfl)
  obtain ⟨f1, g1⟩ := id h1
  obtain ⟨a1, c1, l1, e1, hl1, hK1, hw1⟩ := open_kints (k := .u16) Try.underlying26 Try.underlying211 cells211 g1
  simp [Value.cells] at e1
  obtain ⟨rfl, rfl, rfl⟩ := e1
  obtain ⟨n2, rfl⟩ := okWide_int Try.underlying5 (hval 2 5 v2 rfl rfl)
  obtain ⟨f2, g2⟩ := id h2
  have w2 : (.u8 : IntKind).min ≤ n2 ∧ n2 ≤ (.u8 : IntKind).max := by
    obtain ⟨m, e, _, hw⟩ := DataW.trod_int Try.underlying5 g2
    simp [Value.cells] at e
    subst e
    exact wf_in hw
  obtain ⟨n3, rfl⟩ := okWide_int Try.underlying5 (hval 3 5 v3 rfl rfl)
  obtain ⟨f3, g3⟩ := id h3
  have w3 : (.u8 : IntKind).min ≤ n3 ∧ n3 ≤ (.u8 : IntKind).max := by
    obtain ⟨m, e, _, hw⟩ := DataW.trod_int Try.underlying5 g3
    simp [Value.cells] at e
    subst e
    exact wf_in hw
  obtain ⟨n4, rfl⟩ := okWide_int Try.underlying5 (hval 4 5 v4 rfl rfl)
  obtain ⟨f4, g4⟩ := id h4
  have w4 : (.u8 : IntKind).min ≤ n4 ∧ n4 ≤ (.u8 : IntKind).max := by
    obtain ⟨m, e, _, hw⟩ := DataW.trod_int Try.underlying5 g4
    simp [Value.cells] at e
    subst e
    exact wf_in hw
  clear hA0 hval0
  simp only [List.append_nil] at hW'
  have hw := pcall_calls (M.TopSplit_p b0 l1 n2 n3 n4 hd0 hl0 (fun x hx => hw1 x hx) hl1 w2 w3 w4) (rels_cons (M.bank_in (dc := dc0) (lc := lc0) hB0) (rels_cons (.t (kints_in (c := sc1) hK1)) (rels_cons (.v _) (rels_cons (.v _) (rels_cons (.v _) rels_nil))))) (v := .bool true) (fun r hr => hr)
  refine hw.mono fun e W' ⟨he, hg⟩ => ?_
  subst he
  have hlt := hW'.lt
  have hsame : ∀ x ∈ p0 ++ (p1 ++ (p2 ++ (p3 ++ p4))), W.sameAt W' x := fun x hx => hg.same (hlt x hx)
  exact ⟨_, rfl, Ev.post_of_below (pa := p0 ++ (p1 ++ (p2 ++ (p3 ++ p4)))) (pv := []) hW' (fun _ _ _ => (trodAll_cons_mk (shut_bool Try.underlying4 _) trodAll_mk0))
    (fun sp hsp => by
      rw [Try.params3]
      exact (trodAll_cons_mk (WideElems.Trod_stays laidOut (by kernel_rfl) (of_decide_eq_true (by kernel_rfl)) h0 (fun x hx => hsame x (List.mem_append_left _ hx)) (fun x hx => hsp x (List.mem_append_left _ hx)))
        (trodAll_cons_mk (WideElems.Trod_stays laidOut (by kernel_rfl) (of_decide_eq_true (by kernel_rfl)) h1 (fun x hx => hsame x (List.mem_append_right _ (List.mem_append_left _ hx))) (fun x hx => hsp x (List.mem_append_right _ (List.mem_append_left _ hx))))
        (trodAll_cons_mk (WideElems.Trod_stays laidOut (by kernel_rfl) (of_decide_eq_true (by kernel_rfl)) h2 (fun x hx => hsame x (List.mem_append_right _ (List.mem_append_right _ (List.mem_append_left _ hx)))) (fun x hx => hsp x (List.mem_append_right _ (List.mem_append_right _ (List.mem_append_left _ hx)))))
        (trodAll_cons_mk (WideElems.Trod_stays laidOut (by kernel_rfl) (of_decide_eq_true (by kernel_rfl)) h3 (fun x hx => hsame x (List.mem_append_right _ (List.mem_append_right _ (List.mem_append_right _ (List.mem_append_left _ hx))))) (fun x hx => hsp x (List.mem_append_right _ (List.mem_append_right _ (List.mem_append_right _ (List.mem_append_left _ hx))))))
        (trodAll_mk1 (WideElems.Trod_stays laidOut (by kernel_rfl) (of_decide_eq_true (by kernel_rfl)) h4 (fun x hx => hsame x (List.mem_append_right _ (List.mem_append_right _ (List.mem_append_right _ (List.mem_append_right _ hx))))) (fun x hx => hsp x (List.mem_append_right _ (List.mem_append_right _ (List.mem_append_right _ (List.mem_append_right _ hx))))))))))))
    (fun _ _ => rfl) (by simp)
    hg (ok_one (by kernel_rfl) rfl (okWide_bool_mk Try.underlying4 _))⟩
theorem over : Rows.topSplitRow.holds Try.pinned (OpenSpec.ofChange Rows.topSplitSpec) :=
  OpenClaim.holds_of_wide 3 Try.f3 rfl rfl rfl rfl rfl rfl rfl ⟨rfl, rfl, rfl, rfl, rfl⟩ rfl rfl rfl rfl rfl (by kernel_rfl) Try.func3 (by kernel_rfl)
    (of_decide_eq_true (by kernel_rfl)) (by unfold Func.isWrapper; first | (rw [if_pos (by decide +kernel)]; kernel_rfl) | (rw [if_neg (by decide +kernel)]; exact ⟨rfl, rfl⟩))
    (fun os started H enc _ => lifted os started H enc)
theorem proved : Rows.TopSplitSaid :=
  over
#print axioms proved
end Go.Proofs.Ytlpknbneilgjkaa.topSplit
