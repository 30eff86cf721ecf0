/- Joined texts: Oc, Csr. -/
import Derived.Test.YtfiacjdkdjkiiaaZsCo
import Derived.Test.YtfiacjdkdjkiiaaGCo
import Derived.Test.YtfiacjdkdjkiiaaRows
import Derived.WalkKit
import Derived.ProofKit
import Derived.OpenShut
import Derived.WideKeyArgs
import Derived.Test.YtfiacjdkdjkiiaaEvP
import Derived.Test.YtfiacjdkdjkiiaaEvaw
import Derived.Test.YtfiacjdkdjkiiaaZsSr
section
namespace Go.Proofs.Ytfiacjdkdjkiiaa
open Go Go.RowKit Go.ChangeShapes Go.Tl
set_option linter.unusedVariables false
set_option linter.unusedSimpArgs false
section
variable {P : Program} {H : Type} {enc : TypeId × Value → H} {w : World} {base : Nat} {spare : Nat → Bool} {held : Bool}
theorem open_recs {t te e : TypeId} {q0 q1 q2 : Field} {fuel : Nat} {cs : List Value} {x : DataW H × List MemPlace} (hs : P.underlying t = some (.slice te)) (hsz : P.cellsOf te = 3) (ht : P.underlying te = some (.struct #[q0, q1, q2])) (hq0 : q0.type = e ∧ q0.offset = 0) (hq1 : q1.type = e ∧ q1.offset = 1) (hq2 : q2.type = e ∧ q2.offset = 2)
    (he : P.underlying e = some (.int .i64)) (hc : P.cellsOf e = 1)
    (h : DataW.trod enc P w base spare held fuel t cs = some x) : ∃ (a : Option Addr) (c : Nat) (rs : List RecD), cs = [.slice a rs.length c] ∧ rs.length ≤ maxLen ∧ RecsAt w a rs := by
  obtain ⟨a, c, l, g1, g2, g3⟩ := open_slice (α := RecD) (R := fun val r => val 0 = .int .i64 r.loan ∧ val 1 = .int .i64 r.day ∧ val 2 = .int .i64 r.pence) hs hsz (by omega) (fun fuel cs y hy hl => by
    obtain ⟨y0, y1, y2, n, _, k0, k1, k2⟩ := trod_struct3 ht hy
    match cs, hl with
    | [u, v, z], _ =>
      rw [hq0.1, hq0.2, hc] at k0
      rw [hq1.1, hq1.2, hc] at k1
      rw [hq2.1, hq2.2, hc] at k2
      obtain ⟨m0, e0, _, _⟩ := DataW.trod_int he k0
      obtain ⟨m1, e1, _, _⟩ := DataW.trod_int he k1
      obtain ⟨m2, e2, _, _⟩ := DataW.trod_int he k2
      simp only [List.drop_zero, List.take_succ_cons, List.take_zero, List.cons.injEq, and_true] at e0
      simp only [List.drop_succ_cons, List.drop_zero, List.take_succ_cons, List.take_nil, List.take_zero, List.cons.injEq, and_true] at e1
      simp only [List.drop_succ_cons, List.drop_zero, List.take_succ_cons, List.take_nil, List.take_zero, List.cons.injEq, and_true] at e2
      exact ⟨⟨m0, m1, m2⟩, e0, e1, e2⟩) h
  refine ⟨a, c, l, g1, g2, fun k hk => ?_⟩
  obtain ⟨b, off, val, e, g, r1, r2, r3⟩ := g3 k hk
  refine ⟨b, off, e, ?_, ?_, ?_⟩
  · have := g 0 (by omega); rw [r1] at this; simpa using this
  · have := g 1 (by omega); rw [r2] at this; exact this
  · have := g 2 (by omega); rw [r3] at this; exact this
end
theorem recs_in {w : World} {a : Option Addr} {c : Nat} {xs : List RecD} (h : RecsAt w a xs) : Tl.TRel w (fun b => b < w.heap.size) (recsT false xs) (.slice a xs.length c) := by
  refine sl_in (fun _ _ => rfl) (by omega) (fun k hk => ?_)
  obtain ⟨b, off, e, h0, h1, h2⟩ := h k hk
  refine ⟨b, off, fun j => if j = 0 then .int .i64 (xs.getD k default).loan else if j = 1 then .int .i64 (xs.getD k default).day else .int .i64 (xs.getD k default).pence, e, fun j hj => ?_, fun j x hx => ?_⟩
  · rcases (show j = 0 ∨ j = 1 ∨ j = 2 by omega) with rfl | rfl | rfl
    · simpa using h0
    · simpa using h1
    · simpa using h2
  · match j with
    | 0 => simp [recL] at hx; subst hx; exact .sc _
    | 1 => simp [recL] at hx; subst hx; exact .sc _
    | 2 => simp [recL] at hx; subst hx; exact .sc _
    | j + 3 => simp [recL] at hx
end Go.Proofs.Ytfiacjdkdjkiiaa
end
section
namespace Go.Proofs.Ytfiacjdkdjkiiaa.marginSures
open Go.ChangeShapes Go.WideShapes Go.ChangeAt Go.RowKit Go.Tl
set_option linter.unusedVariables false
theorem own : ownKnob Try.prog.godebug = none := by kernel_rfl
theorem laidOut : laidOutB Try.prog = true := by kernel_rfl
theorem cells3 : Try.prog.cellsOf 3 = 1 := by kernel_rfl
theorem cells22 : Try.prog.cellsOf 22 = 1 := by kernel_rfl
theorem cells23 : Try.prog.cellsOf 23 = 1 := by kernel_rfl
theorem cells25 : Try.prog.cellsOf 25 = 3 := by kernel_rfl
theorem cells27 : Try.prog.cellsOf 27 = 1 := by kernel_rfl
theorem cells54 : Try.prog.cellsOf 54 = 1 := by kernel_rfl
theorem cells62 : Try.prog.cellsOf 62 = 3 := by kernel_rfl
theorem cells69 : Try.prog.cellsOf 69 = 2 := by kernel_rfl
theorem cells80 : Try.prog.cellsOf 80 = 3 := by kernel_rfl
theorem cells88 : Try.prog.cellsOf 88 = 3 := by kernel_rfl
section
variable {H : Type} {enc : TypeId × Value → H} {w : World} {base : Nat} {spare : Nat → Bool} {held : Bool}
set_option maxRecDepth 100000 in
theorem open_bank {fuel : Nat} {cs : List Value} {x : DataW H × List MemPlace} (h : DataW.trod enc Try.prog w base spare held fuel 25 cs = some x) :
    ∃ (b : BankD) (da : Option Addr) (dc : Nat) (la : Option Addr) (lc : Nat), cs = [.int .i64 b.stocks, .slice da b.days.length dc, .slice la b.loans.length lc] ∧ b.days.length ≤ maxLen ∧ b.loans.length ≤ maxLen ∧ BankAt w da la b := by
  obtain ⟨y0, y1, y2, n, hl, k0, k1, k2⟩ := trod_struct3 Try.underlying25 h
  rw [cells25] at hl
  match cs, hl with
  | [u, v, z], _ =>
    rw [cells3] at k0
    rw [cells22] at k1
    rw [cells23] at k2
    obtain ⟨st, e0, _, _⟩ := DataW.trod_int Try.underlying3 k0
    obtain ⟨da, dc, ds, e1, hd, hD⟩ := open_days Try.underlying22 cells88 Try.underlying88 ⟨rfl, rfl, cells54⟩ ⟨rfl, rfl, cells69⟩ Try.underlying54 Try.underlying69 ⟨rfl, rfl⟩ ⟨rfl, rfl⟩ Try.underlying3 cells3 k1
    obtain ⟨la, lc, ls, e2, hl, hL⟩ := open_loans Try.underlying23 cells80 Try.underlying80 ⟨rfl, rfl⟩ ⟨rfl, rfl⟩ ⟨rfl, rfl, cells27⟩ Try.underlying27 Try.underlying3 cells3 k2
    simp only [List.drop_zero, List.take_succ_cons, List.take_zero, List.cons.injEq, and_true] at e0
    simp only [List.drop_succ_cons, List.drop_zero, List.take_succ_cons, List.take_zero, List.cons.injEq, and_true] at e1
    simp only [List.drop_succ_cons, List.drop_zero, List.take_succ_cons, List.take_nil, List.cons.injEq, and_true] at e2
    exact ⟨⟨st, ds, ls⟩, da, dc, la, lc, by rw [e0, e1, e2], hd, hl, hD, hL⟩
end
theorem awake_p : PCall Try.prog 18 [] (fun r => r = boolA true) := pcall_below fun w S vs hvs => by
  obtain rfl := rels0 hvs
  exact (aw_calls w).mono fun e w' ⟨e1, hb⟩ => ⟨_, _, e1, rfl, hb, .v _⟩
set_option maxRecDepth 100000 in
theorem lifted (os : Os) (started : os.Started) (H : Type) (enc : TypeId × Value → H) :
    ReturnsInHanded {} Try.checked os 5 .any (Rows.marginSuresSpec.pre6 enc Try.prog Try.f5 Rows.marginSuresRow.domain false) (Rows.marginSuresSpec.post enc Try.prog Try.f5 false true false false) := by
  refine returnsInHanded_of_change (C := Try.checked) own started (by kernel_rfl) Try.func5
    (ChangeSpec.witness6 (enc := enc) (C := Try.checked) false ⟨#[], #[.agg #[.int .i64 0, .slice none 0 0, .slice none 0 0], .int .i64 0, .slice none 0 0], []⟩ 8 (by kernel_rfl) (by kernel_rfl) (by kernel_rfl) (by kernel_rfl)) ?_
  intro W base args ds gs before hval0 hW hcnd _
  have hval : ∀ (j : Nat) t v, Try.f5.params[j]? = some t → args[j]? = some v → Value.okWide Try.prog W .any base t v := hval0
  have hW' := hW
  obtain ⟨p, q, hA0, hV, rfl, hfz, hnd⟩ := hW
  have hA : DataW.TrodAll enc Try.prog W 0 (fun _ => true) true Try.f5.params.toList args.toList ds p := hA0
  rw [Try.params5] at hA hval
  obtain ⟨v0, vs0, d0, ds0, p0, q0, hvs0, rfl, rfl, h0, hA1⟩ := trodAll_cons hA
  obtain ⟨v1, vs1, d1, ds1, p1, q1, hvs1, rfl, rfl, h1, hA2⟩ := trodAll_cons hA1
  obtain ⟨v2, vs2, d2, ds2, p2, q2, hvs2, rfl, rfl, h2, hA3⟩ := trodAll_cons hA2
  obtain ⟨rfl, rfl, rfl⟩ := trodAll_nil hA3
  subst hvs2
  subst hvs1
  obtain rfl : args = #[v0, v1, v2] := by apply Array.ext'; simpa using hvs0
  clear hvs0
  obtain ⟨rfl, rfl⟩ := trodVars_none hV
  obtain ⟨cs0, rfl, hsz0⟩ := okWide_struct Try.underlying25 (hval 0 25 v0 rfl rfl)
  obtain ⟨f0, g0⟩ := id h0
  obtain ⟨b0, da0, dc0, la0, lc0, e0, hd0, hl0, hB0⟩ := open_bank g0
  have c0 : cs0 = #[.int .i64 b0.stocks, .slice da0 b0.days.length dc0, .slice la0 b0.loans.length lc0] := by apply Array.ext'; simpa [Value.cells] using e0
  subst c0
  obtain ⟨n1, rfl⟩ := okWide_int Try.underlying3 (hval 1 3 v1 rfl rfl)
  obtain ⟨f1, g1⟩ := id h1
  have w1 : (.i64 : IntKind).min ≤ n1 ∧ n1 ≤ (.i64 : IntKind).max := by
    obtain ⟨m, e, _, hw⟩ := DataW.trod_int Try.underlying3 g1
    simp [Value.cells] at e
    subst e
    exact wf_in hw
  obtain ⟨sa2, sl2, sc2, rfl⟩ := okWide_slice Try.underlying59 (hval 2 59 v2 rfl rfl)
  obtain ⟨f2, g2⟩ := id h2
  obtain ⟨a2, c2, l2, e2, hl2, hK2⟩ := open_recs Try.underlying59 cells62 Try.underlying62 ⟨rfl, rfl⟩ ⟨rfl, rfl⟩ ⟨rfl, rfl⟩ Try.underlying3 cells3 g2
  simp [Value.cells] at e2
  obtain ⟨rfl, rfl, rfl⟩ := e2
  clear hA0 hval0
  simp only [List.append_nil] at hW'
  have hw := pcall_calls (sures_p awake_p b0 n1 l2 hd0 hl0 hl2) (rels_cons (bank_in (dc := dc0) (lc := lc0) hB0) (rels_cons (.v _) (rels_cons (.t (recs_in (c := sc2) hK2)) rels_nil))) (v := .bool true) (fun r hr => hr)
  refine hw.mono fun e W' ⟨he, hg⟩ => ?_
  subst he
  have hlt := hW'.lt
  have hsame : ∀ x ∈ p0 ++ (p1 ++ p2), W.sameAt W' x := fun x hx => hg.same (hlt x hx)
  exact ⟨_, rfl, Ev.post_of_below (pa := p0 ++ (p1 ++ p2)) (pv := []) hW' (fun _ _ _ => (trodAll_cons_mk (shut_bool Try.underlying4 _) trodAll_mk0))
    (fun sp hsp => by
      rw [Try.params5]
      exact (trodAll_cons_mk (WideElems.Trod_stays laidOut (by kernel_rfl) (of_decide_eq_true (by kernel_rfl)) h0 (fun x hx => hsame x (List.mem_append_left _ hx)) (fun x hx => hsp x (List.mem_append_left _ hx)))
        (trodAll_cons_mk (WideElems.Trod_stays laidOut (by kernel_rfl) (of_decide_eq_true (by kernel_rfl)) h1 (fun x hx => hsame x (List.mem_append_right _ (List.mem_append_left _ hx))) (fun x hx => hsp x (List.mem_append_right _ (List.mem_append_left _ hx))))
        (trodAll_mk1 (WideElems.Trod_stays laidOut (by kernel_rfl) (of_decide_eq_true (by kernel_rfl)) h2 (fun x hx => hsame x (List.mem_append_right _ (List.mem_append_right _ hx))) (fun x hx => hsp x (List.mem_append_right _ (List.mem_append_right _ hx))))))))
    (fun _ _ => rfl) (by simp)
    hg (ok_one (by kernel_rfl) rfl (okWide_bool_mk Try.underlying4 _))⟩
theorem over : Rows.marginSuresRow.holds Try.pinned (OpenSpec.ofChange Rows.marginSuresSpec) :=
  OpenClaim.holds_of_wide 5 Try.f5 rfl rfl rfl rfl rfl rfl rfl ⟨rfl, rfl, rfl, rfl, rfl⟩ rfl rfl rfl rfl rfl (by kernel_rfl) Try.func5 (by kernel_rfl)
    (of_decide_eq_true (by kernel_rfl)) (by unfold Func.isWrapper; first | (rw [if_pos (by decide +kernel)]; kernel_rfl) | (rw [if_neg (by decide +kernel)]; exact ⟨rfl, rfl⟩))
    (fun os started H enc _ => lifted os started H enc)
theorem proved : Rows.MarginSuresSaid :=
  over
#print axioms proved
end Go.Proofs.Ytfiacjdkdjkiiaa.marginSures
end
