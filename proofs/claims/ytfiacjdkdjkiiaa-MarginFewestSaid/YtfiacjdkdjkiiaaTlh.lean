/- A variable that is written with what it holds. -/
import Derived.Test.YtfiacjdkdjkiiaaTL
namespace Go.Tl
open Go Go.RowKit
set_option linter.unusedVariables false
set_option linter.unusedSimpArgs false
theorem lits_same {w : World} {S : Nat → Prop} {us : List AV} (h : us.all litA = true) : ∀ {vs vs' : List Value}, VRels w S us vs → VRels w S us vs' → vs = vs' := by
  induction us with
  | nil => intro vs vs' h1 h2; rw [List.length_eq_zero_iff.1 h1.1.symm, List.length_eq_zero_iff.1 h2.1.symm]
  | cons u us ih =>
    intro vs vs' h1 h2
    simp only [List.all_cons, Bool.and_eq_true] at h
    cases vs with
    | nil => have := h1.1; simp at this
    | cons v vs => cases vs' with
      | nil => have := h2.1; simp at this
      | cons v' vs' =>
        have a1 := h1.2 0 u v rfl rfl
        have a2 := h2.2 0 u v' rfl rfl
        have t1 : VRels w S us vs := ⟨by have := h1.1; simpa using this, fun j a b ha hb => h1.2 (j + 1) a b (by simpa using ha) (by simpa using hb)⟩
        have t2 : VRels w S us vs' := ⟨by have := h2.1; simpa using this, fun j a b ha hb => h2.2 (j + 1) a b (by simpa using ha) (by simpa using hb)⟩
        cases u with
        | v x => rw [a1.lit_inv, a2.lit_inv, ih h.2 t1 t2]
        | _ => simp [litA] at h
section
variable {P : Program} {N : Nat} {o : Oper} {md : Nat → Prop} {s : Slots} {h : List Ent} {K : Slots → List Ent → Prop}
theorem st_same (T : TT P) {t n g : Nat} {ag : Bool} {x y : Operand} {u : AV} {T' : TypeId} {us : List AV} (ho : o.op = .store t x y) (hx : evA s x = some (.v (.pointer (some ⟨g, 0, none⟩)))) (hy : evA s y = some u)
    (ht : f2 T.siz t = some (n, ag)) (hok : okA u = true) (hu : cellsA u = us) (hone : us.all oneA = true) (hn : Nat.beq us.length n = true) (hd : o.dst = none) (hm : Mem1 (.cl g T' us) h) (hlit : us.all litA = true)
    (hK : K s h) : AOp P N o md s h K := fun B w S a hs Kr Qr hk => by
  subst hu
  have hn := Nat.eq_of_beq_eq_true hn
  obtain ⟨j, d, hj, hjn, hne, hu, hd'⟩ := T.siz_at ht
  have hv := hs.slots.eval hy
  have hxl := hs.slots.lit hx
  generalize hev : a.eval y = v at *
  obtain ⟨vs, hvs, hr⟩ := hs.heap.ent _ hm.mem
  have hc := cellsA_rel hv hok
  have hcl : v.cells.toList.length = n := by rw [← hc.1]; exact hn
  have hones := ones_rel hc (by simpa [List.all_eq_true] using hone)
  have hsame : vs = v.cells.toList := lits_same hlit hr hc
  have hst := run_storeCells_at P g 0 T' v.cells.toList 0 vs.toArray w hvs (by simp [hsame]) hones
  simp only [Nat.add_zero] at hst
  have hnew : (List.take 0 vs ++ v.cells.toList ++ List.drop (0 + v.cells.toList.length) vs).toArray = vs.toArray := by
    rw [hsame]
    simp only [List.take_zero, Nat.zero_add, List.drop_length, List.nil_append, List.append_nil]
  rw [hnew, setRow_self w g _ _ _ hvs] at hst
  have hrun : (execOp a.eval o).run P w = .ok .skip w := by
    have hsz : v.cells.size = j.size := by rw [hjn, ← hcl]; simp
    simp [execOp, ho, hxl, hev, Instr.storeAt, Instr.sureAddr, storeVar, run_sizeOf' hj, hsz]
    rw [hst]
    simp [hsz]
  unfold wpX
  rw [hd] at hk
  rw [hrun, Oper.uponIn_skip, hd]
  exact hk _ _ S _ _ hK hs.putNone .refl
end
end Go.Tl
