/- The law CornerAgainst: for all arguments it returns true. The arguments are opened as plain data, its walk is a call over trees; nothing that was there is written. -/
import Derived.Test.YtallicfckbdeaaaRows
import Derived.WalkKit
import Derived.ProofKit
import Derived.OpenShut
import Derived.WideKeyArgs
import Derived.SizedLaws
import Derived.Test.YtallicfckbdeaaaEvP
import Derived.Test.YtallicfckbdeaaaOp
import Derived.Test.YtallicfckbdeaaaLy
namespace Go.Proofs.Ytallicfckbdeaaa.cornerAgainst
open Go.ChangeShapes Go.WideShapes Go.ChangeAt Go.RowKit Go.Tl
set_option linter.unusedVariables false
theorem own : ownKnob Try.prog.godebug = none := by kernel_rfl
theorem laidOut : laidOutB Try.prog = true := by kernel_rfl
theorem cells3 : Try.prog.cellsOf 3 = 1 := by kernel_rfl
theorem cells143 : Try.prog.cellsOf 143 = 1 := by kernel_rfl
theorem str3 {P : Program} {H : Type} {enc : TypeId × Value → H} {w : World} {base : Nat} {spare : Nat → Bool} {held : Bool} {t : TypeId} {f0 f1 f2 : Field} {fuel : Nat} {cs : List Value} {x : DataW H × List MemPlace} (ht : P.underlying t = some (.struct #[f0, f1, f2])) (h : DataW.trod enc P w base spare held fuel t cs = some x) :
    ∃ y0 y1 y2 n, x.1 = .agg [y0.1, y1.1, y2.1] ∧ DataW.trod enc P w base spare held n f0.type ((cs.drop f0.offset).take (P.cellsOf f0.type)) = some y0 ∧
      DataW.trod enc P w base spare held n f1.type ((cs.drop f1.offset).take (P.cellsOf f1.type)) = some y1 ∧ DataW.trod enc P w base spare held n f2.type ((cs.drop f2.offset).take (P.cellsOf f2.type)) = some y2 := by
  obtain ⟨xs, n, _, rfl, hl, hlen, hf⟩ := DataW.trod_struct ht h
  match xs, hlen with
  | [y0, y1, y2], _ => exact ⟨y0, y1, y2, n, by simp, by simpa using hf 0 f0 rfl, by simpa using hf 1 f1 rfl, by simpa using hf 2 f2 rfl⟩
theorem con_wt {H : Type} {enc : TypeId × Value → H} {w : World} {base : Nat} {spare : Nat → Bool} {held : Bool} {fuel n c n' c' : Nat} {e : Int} {a a' : Option Addr} {d : DataW H} {p : List MemPlace} (h : DataW.trod enc Try.prog w base spare held fuel 25 [.int .i64 e, .slice a n c, .slice a' n' c'] = some (d, p)) (hwt : (DataW.weights Try.prog 25 d).all (· ≤ reachBytes) = true) : (n' + 2) * 24 ≤ 140737488355328 := by
  obtain ⟨y0, y1, y2, k, hx, _, _, h1⟩ := str3 Try.underlying25 h
  obtain rfl : d = .agg [y0.1, y1.1, y2.1] := hx
  rw [tcells23] at h1
  have h2 : DataW.trod enc Try.prog w base spare held k 23 [.slice a' n' c'] = some y2 := h1
  clear h1
  rcases DataW.trod_slice Try.underlying23 h2 with ⟨e, _⟩ | ⟨a', len, cap, elems, rest, n', _, e, hy, _, _, _, hlen, _⟩
  · simp at e
    obtain ⟨_, rfl, _⟩ := e
    decide
  · simp at e
    obtain ⟨_, rfl, _⟩ := e
    subst hy
    have hb : Try.prog.bytesOf 101 = 24 := by kernel_rfl
    simp only [DataW.weights, Try.underlying25, Try.underlying23, DataW.weightsEach, List.map_cons, List.map_nil, List.length_map, List.all_append, List.all_cons, List.all_nil, Bool.and_true, Bool.and_eq_true, decide_eq_true_eq, hb] at hwt
    have h7 : (elems.length + rest.length) * 24 ≤ reachBytes := hwt.2.2.1
    have h3 : reachBytes = 140737488351232 := by kernel_rfl
    rw [h3] at h7
    subst hlen
    have h4 := Nat.mul_le_mul_right 24 (Nat.le_add_right elems.length rest.length)
    omega
set_option maxRecDepth 100000 in
theorem lifted (os : Os) (started : os.Started) (H : Type) (enc : TypeId × Value → H) :
    ReturnsInHanded {} Try.checked os 16 .any (Rows.cornerAgainstSpec.pre6 enc Try.prog Try.f16 Rows.cornerAgainstRow.domain false) (Rows.cornerAgainstSpec.post enc Try.prog Try.f16 false true false false) := by
  refine returnsInHanded_of_change_sized (C := Try.checked) own started (by kernel_rfl) Try.func16
    (ChangeSpec.witness6 (enc := enc) (C := Try.checked) false ⟨#[], #[.agg #[.int .i64 0, .slice none 0 0, .slice none 0 0], .agg #[.int .i64 0, .int .i64 0, .int .i64 0]], []⟩ 8 (by kernel_rfl) (by kernel_rfl) (by kernel_rfl) (by kernel_rfl)) ?_
  intro W base args ds gs before hval0 hW hcnd hwt _
  have hval : ∀ (j : Nat) t v, Try.f16.params[j]? = some t → args[j]? = some v → Value.okWide Try.prog W .any base t v := hval0
  have hW' := hW
  obtain ⟨p, q, hA0, hV, rfl, hfz, hnd⟩ := hW
  have hA : DataW.TrodAll enc Try.prog W 0 (fun _ => true) true Try.f16.params.toList args.toList ds p := hA0
  rw [Try.params16] at hA hval
  obtain ⟨v0, vs0, d0, ds0, p0, q0, hvs0, rfl, rfl, h0, hA1⟩ := trodAll_cons hA
  obtain ⟨v1, vs1, d1, ds1, p1, q1, hvs1, rfl, rfl, h1, hA2⟩ := trodAll_cons hA1
  obtain ⟨rfl, rfl, rfl⟩ := trodAll_nil hA2
  subst hvs1
  obtain rfl : args = #[v0, v1] := by apply Array.ext'; simpa using hvs0
  clear hvs0
  obtain ⟨rfl, rfl⟩ := trodVars_none hV
  obtain ⟨cs0, rfl, hsz0⟩ := okWide_struct Try.underlying25 (hval 0 25 v0 rfl rfl)
  obtain ⟨f0, g0⟩ := id h0
  obtain ⟨b0, a0, c0, aa0, cc0, e0, hl0, hK0, hC0⟩ := open_market g0
  have k0 : cs0 = #[.int .i64 b0.ex, .slice a0 b0.hou.length c0, .slice aa0 b0.con.length cc0] := by apply Array.ext'; simpa [Value.cells] using e0
  subst k0
  obtain ⟨cs1, rfl, hsz1⟩ := okWide_struct Try.underlying101 (hval 1 101 v1 rfl rfl)
  obtain ⟨f1, g1⟩ := id h1
  obtain ⟨m1, e1⟩ := open_con g1
  have k1 : cs1 = #[.int .i64 m1.sh, .int .i64 m1.lg, .int .i64 m1.n] := by apply Array.ext'; simpa [Value.cells] using e1
  subst k1
  have hwt0 : (DataW.weights Try.prog 25 d0).all (· ≤ reachBytes) = true := by
    have h5 := hwt
    rw [Try.params16] at h5
    simp only [List.cons_append, DataW.weightsEach, List.all_append, Bool.and_eq_true] at h5
    exact h5.1
  clear hA0 hval0
  simp only [List.append_nil] at hW'
  have hw := pcall_calls (CornerAgainst_p b0 m1 hl0.1 (con_wt g0 hwt0)) (rels_cons (market_in (c := c0) (c' := cc0) hK0 hC0) (rels_cons (con_in m1) rels_nil)) (v := .bool true) (fun r hr => hr)
  refine hw.mono fun e W' ⟨he, hg⟩ => ?_
  subst he
  have hlt := hW'.lt
  have hsame : ∀ x ∈ p0 ++ p1, W.sameAt W' x := fun x hx => hg.same (hlt x hx)
  exact ⟨_, rfl, Ev.post_of_below (pa := p0 ++ p1) (pv := []) hW' (fun _ _ _ => (trodAll_cons_mk (shut_bool Try.underlying4 _) trodAll_mk0))
    (fun sp hsp => by
      rw [Try.params16]
      exact (trodAll_cons_mk (WideElems.Trod_stays laidOut (by kernel_rfl) (of_decide_eq_true (by kernel_rfl)) h0 (fun x hx => hsame x (List.mem_append_left _ hx)) (fun x hx => hsp x (List.mem_append_left _ hx)))
        (trodAll_mk1 (WideElems.Trod_stays laidOut (by kernel_rfl) (of_decide_eq_true (by kernel_rfl)) h1 (fun x hx => hsame x (List.mem_append_right _ hx)) (fun x hx => hsp x (List.mem_append_right _ hx))))))
    (fun _ _ => rfl) (by simp)
    hg (ok_one (by kernel_rfl) rfl (okWide_bool_mk Try.underlying4 _))⟩
theorem over : Rows.cornerAgainstRow.holds Try.pinned (OpenSpec.ofChange Rows.cornerAgainstSpec) :=
  OpenClaim.holds_of_wide 16 Try.f16 rfl rfl rfl rfl rfl rfl rfl ⟨rfl, rfl, rfl, rfl, rfl⟩ rfl rfl rfl rfl rfl (by kernel_rfl) Try.func16 (by kernel_rfl)
    (of_decide_eq_true (by kernel_rfl)) (by unfold Func.isWrapper; first | (rw [if_pos (by decide +kernel)]; kernel_rfl) | (rw [if_neg (by decide +kernel)]; exact ⟨rfl, rfl⟩))
    (fun os started H enc _ => lifted os started H enc)
theorem proved : Rows.CornerAgainstSaid :=
  over
#print axioms proved
end Go.Proofs.Ytallicfckbdeaaa.cornerAgainst
