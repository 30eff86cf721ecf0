/- The law PostLast: for all arguments it returns true. The arguments are opened as plain data, its walk is a call over trees; nothing that was there is written. -/
import Derived.Test.YteaoclpikdmkiaaRows
import Derived.WalkKit
import Derived.ProofKit
import Derived.OpenShut
import Derived.WideKeyArgs
import Derived.SizedLaws
import Derived.Test.YteaoclpikdmkiaaEvP
import Derived.Test.YteaoclpikdmkiaaOp
import Derived.Test.YteaoclpikdmkiaaQs
namespace Go.Proofs.Yteaoclpikdmkiaa.postLast
open Go.ChangeShapes Go.WideShapes Go.ChangeAt Go.RowKit Go.Tl
set_option linter.unusedVariables false
theorem own : ownKnob Try.prog.godebug = none := by kernel_rfl
theorem laidOut : laidOutB Try.prog = true := by kernel_rfl
theorem cells3 : Try.prog.cellsOf 3 = 1 := by kernel_rfl
theorem cells5 : Try.prog.cellsOf 5 = 1 := by kernel_rfl
theorem post_wt {H : Type} {enc : TypeId × Value → H} {w : World} {base : Nat} {spare : Nat → Bool} {held : Bool} {fuel n c : Nat} {a : Option Addr} {d : DataW H} {p : List MemPlace} (h : DataW.trod enc Try.prog w base spare held fuel 24 [.slice a n c] = some (d, p)) (hwt : (DataW.weights Try.prog 24 d).all (· ≤ reachBytes) = true) : (n + 1) * 40 ≤ 140737488355328 := by
  obtain ⟨y0, k, hx, _, h1⟩ := Go.ChangeShapes.trod_struct1 Try.underlying24 h
  obtain rfl : d = .agg [y0.1] := congrArg Prod.fst hx
  rw [tcells22] at h1
  have h2 : DataW.trod enc Try.prog w base spare held k 22 [.slice a n c] = some y0 := h1
  clear h1
  rcases DataW.trod_slice Try.underlying22 h2 with ⟨e, _⟩ | ⟨a', len, cap, elems, rest, n', _, e, hy, _, _, _, hlen, _⟩
  · simp at e
    obtain ⟨_, rfl, _⟩ := e
    decide
  · simp at e
    obtain ⟨_, rfl, _⟩ := e
    subst hy
    have hb : Try.prog.bytesOf 58 = 40 := by kernel_rfl
    simp only [DataW.weights, Try.underlying24, Try.underlying22, DataW.weightsEach, List.map_cons, List.map_nil, List.length_map, List.all_append, List.all_cons, List.all_nil, Bool.and_true, Bool.and_eq_true, decide_eq_true_eq, hb] at hwt
    have h7 : (elems.length + rest.length) * 40 ≤ reachBytes := hwt.1
    have h3 : reachBytes = 140737488351232 := by kernel_rfl
    rw [h3] at h7
    subst hlen
    have h4 := Nat.mul_le_mul_right 40 (Nat.le_add_right elems.length rest.length)
    omega
set_option maxRecDepth 100000 in
theorem lifted (os : Os) (started : os.Started) (H : Type) (enc : TypeId × Value → H) :
    ReturnsInHanded {} Try.checked os 14 .any (Rows.postLastSpec.pre6 enc Try.prog Try.f14 Rows.postLastRow.domain false) (Rows.postLastSpec.post enc Try.prog Try.f14 false true false false) := by
  refine returnsInHanded_of_change_sized (C := Try.checked) own started (by kernel_rfl) Try.func14
    (ChangeSpec.witness6 (enc := enc) (C := Try.checked) false ⟨#[], #[.agg #[.slice none 0 0], .slice none 0 0, .agg #[.bool false, .int .i64 0, .int .i64 0, .int .i64 0, .int .i64 0]], []⟩ 8 (by kernel_rfl) (by kernel_rfl) (by kernel_rfl) (by kernel_rfl)) ?_
  intro W base args ds gs before hval0 hW hcnd hwt _
  have hval : ∀ (j : Nat) t v, Try.f14.params[j]? = some t → args[j]? = some v → Value.okWide Try.prog W .any base t v := hval0
  have hW' := hW
  obtain ⟨p, q, hA0, hV, rfl, hfz, hnd⟩ := hW
  have hA : DataW.TrodAll enc Try.prog W 0 (fun _ => true) true Try.f14.params.toList args.toList ds p := hA0
  rw [Try.params14] at hA hval
  obtain ⟨v0, vs0, d0, ds0, p0, q0, hvs0, rfl, rfl, h0, hA1⟩ := trodAll_cons hA
  obtain ⟨v1, vs1, d1, ds1, p1, q1, hvs1, rfl, rfl, h1, hA2⟩ := trodAll_cons hA1
  obtain ⟨v2, vs2, d2, ds2, p2, q2, hvs2, rfl, rfl, h2, hA3⟩ := trodAll_cons hA2
  obtain ⟨rfl, rfl, rfl⟩ := trodAll_nil hA3
  subst hvs2
  subst hvs1
  obtain rfl : args = #[v0, v1, v2] := by apply Array.ext'; simpa using hvs0
  clear hvs0
  obtain ⟨rfl, rfl⟩ := trodVars_none hV
  obtain ⟨cs0, rfl, hsz0⟩ := okWide_struct Try.underlying24 (hval 0 24 v0 rfl rfl)
  obtain ⟨f0, g0⟩ := id h0
  obtain ⟨b0, a0, c0, e0, hl0, hK0⟩ := open_post g0
  have k0 : cs0 = #[.slice a0 b0.ords.length c0] := by apply Array.ext'; simpa [Value.cells] using e0
  subst k0
  obtain ⟨sa1, sl1, sc1, rfl⟩ := okWide_slice Try.underlying80 (hval 1 80 v1 rfl rfl)
  obtain ⟨f1, g1⟩ := id h1
  obtain ⟨a1, c1, l1, e1, hl1, hK1, hw1⟩ := open_kints (k := .u8) Try.underlying80 Try.underlying5 cells5 g1
  simp [Value.cells] at e1
  obtain ⟨rfl, rfl, rfl⟩ := e1
  obtain ⟨cs2, rfl, hsz2⟩ := okWide_struct Try.underlying58 (hval 2 58 v2 rfl rfl)
  obtain ⟨f2, g2⟩ := id h2
  obtain ⟨m2, e2⟩ := open_ord g2
  have k2 : cs2 = #[.bool m2.buy, .int .i64 m2.lim, .int .i64 m2.num, .int .i64 m2.lo, .int .i64 m2.hi] := by apply Array.ext'; simpa [Value.cells] using e2
  subst k2
  have hwt0 : (DataW.weights Try.prog 24 d0).all (· ≤ reachBytes) = true := by
    have h5 := hwt
    rw [Try.params14] at h5
    simp only [List.cons_append, DataW.weightsEach, List.all_append, Bool.and_eq_true] at h5
    exact h5.1
  clear hA0 hval0
  simp only [List.append_nil] at hW'
  have hw := pcall_calls (PostLast_p b0 l1 m2 (post_wt g0 hwt0) (Nat.le_trans hl1 (by decide)) (fun x hx => hw1 x hx)) (rels_cons (post_in (c := c0) hK0) (rels_cons (.t (kints_in (c := sc1) hK1)) (rels_cons (ord_in m2) rels_nil))) (v := .bool true) (fun r hr => hr)
  refine hw.mono fun e W' ⟨he, hg⟩ => ?_
  subst he
  have hlt := hW'.lt
  have hsame : ∀ x ∈ p0 ++ (p1 ++ p2), W.sameAt W' x := fun x hx => hg.same (hlt x hx)
  exact ⟨_, rfl, Ev.post_of_below (pa := p0 ++ (p1 ++ p2)) (pv := []) hW' (fun _ _ _ => (trodAll_cons_mk (shut_bool Try.underlying4 _) trodAll_mk0))
    (fun sp hsp => by
      rw [Try.params14]
      exact (trodAll_cons_mk (WideElems.Trod_stays laidOut (by kernel_rfl) (of_decide_eq_true (by kernel_rfl)) h0 (fun x hx => hsame x (List.mem_append_left _ hx)) (fun x hx => hsp x (List.mem_append_left _ hx)))
        (trodAll_cons_mk (WideElems.Trod_stays laidOut (by kernel_rfl) (of_decide_eq_true (by kernel_rfl)) h1 (fun x hx => hsame x (List.mem_append_right _ (List.mem_append_left _ hx))) (fun x hx => hsp x (List.mem_append_right _ (List.mem_append_left _ hx))))
        (trodAll_mk1 (WideElems.Trod_stays laidOut (by kernel_rfl) (of_decide_eq_true (by kernel_rfl)) h2 (fun x hx => hsame x (List.mem_append_right _ (List.mem_append_right _ hx))) (fun x hx => hsp x (List.mem_append_right _ (List.mem_append_right _ hx))))))))
    (fun _ _ => rfl) (by simp)
    hg (ok_one (by kernel_rfl) rfl (okWide_bool_mk Try.underlying4 _))⟩
theorem over : Rows.postLastRow.holds Try.pinned (OpenSpec.ofChange Rows.postLastSpec) :=
  OpenClaim.holds_of_wide 14 Try.f14 rfl rfl rfl rfl rfl rfl rfl ⟨rfl, rfl, rfl, rfl, rfl⟩ rfl rfl rfl rfl rfl (by kernel_rfl) Try.func14 (by kernel_rfl)
    (of_decide_eq_true (by kernel_rfl)) (by unfold Func.isWrapper; first | (rw [if_pos (by decide +kernel)]; kernel_rfl) | (rw [if_neg (by decide +kernel)]; exact ⟨rfl, rfl⟩))
    (fun os started H enc _ => lifted os started H enc)
theorem proved : Rows.PostLastSaid :=
  over
#print axioms proved
end Go.Proofs.Yteaoclpikdmkiaa.postLast
