/- An element of an array that is a value. -/
import Derived.Test.YteaoclpikdmkiaaGTx
namespace Go.Tl
open Go Go.RowKit
set_option linter.unusedVariables false
set_option linter.unusedSimpArgs false
section
variable {P : Program} {o : Oper} {s : Slots}
theorem pv_index (T : TT P) {t n e m q : Nat} {ag : Bool} {x y : Operand} {cs : List AV} {k : IntKind} {i : Int} {r : AV} (ho : o.op = .index t x y) (hx : evA s x = some (.ag cs)) (hy : evA s y = some (.v (.int k i)))
    (ht : f2 T.arr t = some (n, e, m)) (he : f2 T.siz e = some (m, ag)) (h0 : 0 ≤ i ∧ i < n) (hq : i.toNat * m = q) (hl : Nat.ble (q + m) cs.length = true) (h1 : ag = true ∨ m = 1) (hr : ldA ag m (cs.drop q) = r) : PV P o s r := fun w S a hs => by
  obtain ⟨j, hu, hj, hsz, hne⟩ := T.arr_at ht
  obtain ⟨j', d, hj', hjn, _, hu', hd⟩ := T.siz_at he
  have hl := Nat.le_of_ble_eq_true hl
  have hv := hs.eval hx
  have h2 := hs.lit hy
  generalize hvx : a.eval x = v at *
  cases hv with
  | @ag _ vs hlen hh =>
    have hrel : VRels w S cs vs := ⟨hlen, hh⟩
    have hL := ldA_rel (ag := ag) (n := m) (hrel.drop q) (by simp; omega) hne
    subst hr
    subst hq
    refine ⟨_, fun w' => ?_, hL⟩
    have hrun : (part e vs.toArray (i.toNat * m)).run P w' = .ok (if ag then .agg ((vs.drop (i.toNat * m)).take m).toArray else ((vs.drop (i.toNat * m)).take m).getD 0 undef) w' := by
      cases ag with
      | true => simp [part, run_isAgg' hu', hd, run_sizeOf' hj', hjn, List.extract_eq_take_drop]
      | false =>
        have hm : m = 1 := by simpa using h1
        subst hm
        have hlt : i.toNat * 1 < vs.length := by omega
        simp only [Nat.mul_one] at hlt
        simp [part, run_isAgg' hu', hd, hlt, List.getD_eq_getElem?_getD, List.getElem?_take]
    simp [execOp, ho, hvx, h2, Instr.index, asIntOf, run_underlying hu, run_sizeOf' hj, h0.1, h0.2, hsz, hrun]
theorem fill_mono {f g : Nat → Option (Nat × Nat)} (hfg : ∀ i p, f i = some p → g i = some p) : ∀ (vs : List (Nat × Value)) (cells r : Array Value), Instr.fill f cells vs = some r → Instr.fill g cells vs = some r
  | [], cells, r, h => by simpa [Instr.fill] using h
  | (i, v) :: vs, cells, r, h => by
    simp only [Instr.fill] at h ⊢
    cases hp : f i with
    | none => rw [hp] at h; simp at h
    | some p =>
      rw [hp] at h
      rw [hfg i p hp]
      simp only at h ⊢
      split at h
      · cases h
      · rename_i hc
        rw [if_neg hc]
        exact fill_mono hfg vs _ _ h
theorem pv_build_arr (T : TT P) {t : TypeId} {parts : Array (Nat × Operand)} {z : Value} {n e m : Nat} {ys : List (Nat × AV)} {cs0 cs : List AV} (ho : o.op = .build t parts) (hz : f2 T.zer t = some z) (ht : f2 T.arr t = some (n, e, m)) (hcs : z.cells.toList.map AV.v = cs0) (hp : BParts s parts.toList ys)
    (hf : FillA ((List.range n).map fun i => (i * m, m)) cs0 ys cs) : PV P o s (.ag cs) := fun w S a hs => by
  subst hcs
  have h1 := zOk_at T.zerOk hz
  obtain ⟨i, hi, hiz⟩ := Option.map_eq_some_iff.1 h1
  obtain ⟨j, hu, hj, hsz, hne⟩ := T.arr_at ht
  obtain ⟨hl, hv⟩ := hp.eq (w := w) (S := S) hs
  obtain ⟨cells, hfill, hrel⟩ := fill_rel hf z.cells _ (.lits _) hl hv
  have hfill2 := fill_mono (g := fun i => some (i * m, m)) (fun i p h => by
    simp only [List.getElem?_toArray, List.getElem?_map, Option.map_eq_some_iff] at h
    obtain ⟨q, hq, rfl⟩ := h
    have := List.getElem?_eq_some_iff.1 hq
    obtain ⟨h1, h2⟩ := this
    simp at h2
    rw [h2]) _ _ _ hfill
  refine ⟨.agg cells, fun w' => ?_, .ag (vs := cells.toList) hrel.1 hrel.2⟩
  have hmap : (parts.map fun p => (p.1, a.eval p.2)).toList = parts.toList.map fun p => (p.1, a.eval p.2) := by simp
  have hmap' : (Array.map (fun x => match x with | (i, x) => (i, a.eval x)) parts) = (parts.map fun p => (p.1, a.eval p.2)) := rfl
  simp only [execOp, ho, hmap', Instr.build, Sem.run_bind, zeroValue, typeInfo, run_program, hi, hiz, Result.andThen_ok, Sem.run_pure, run_underlying hu, run_sizeOf' hj, hsz, hmap, hfill2]
/-- what a call returned, if it is a plain value, may be looked up by later loads -/
theorem awt_lit {P : Program} {N : Nat} {ops : Array Oper} {so s : Slots} {ks h : List Ent} {Q : Exit → Slots → List Ent → Prop} {r : Go.Proofs.Yteaoclpikdmkiaa.PT} {x : Value} (d : Nat) (hd : look s d = some (.v x)) (K : AWT P N ops ((d, .v x) :: so) ks r Q s h) : AWT P N ops so ks r Q s h :=
  fun B w0 S0 w S a hs hso hks hl hsz hS hk => K B w0 S0 w S a hs (fun e y hy => by
    simp only [look] at hy
    by_cases c : Nat.beq d e = true
    · have e1 : d = e := Nat.eq_of_beq_eq_true c
      rw [c] at hy
      simp only [cond_true, Option.some.injEq, if_true] at hy
      subst hy
      subst e1
      obtain ⟨u, hu, hr⟩ := hs.slots d _ hd
      rw [hr.lit_inv] at hu
      exact ⟨x, hu, .v x⟩
    · simp only [Bool.not_eq_true] at c
      rw [c] at hy
      simp only [cond_false, Bool.false_eq_true, if_false] at hy
      exact hso e y hy) hks hl hsz hS hk
end
end Go.Tl
