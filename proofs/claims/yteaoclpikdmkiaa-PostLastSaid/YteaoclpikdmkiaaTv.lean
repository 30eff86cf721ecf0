/- A row of an owned list, loaded as one. -/
import Derived.Test.YteaoclpikdmkiaaTy
namespace Go.Tl
open Go Go.RowKit
set_option linter.unusedVariables false
set_option linter.unusedSimpArgs false
theorem lv_rpa {P : Program} {o : Oper} {s : Slots} {h : List Ent} (T : TT P) {t sz k g n c E : Nat} {x : Operand} {rows : List (List AV)} {ys : List AV} (ho : o.op = .load t x) (hx : evA s x = some (.rp (.slice (some ⟨g, 0, none⟩) n c) sz k 0)) (ht : f2 T.siz t = some (sz, true))
    (hm : Mem1 (.rw (.slice (some ⟨g, 0, none⟩) n c) E sz rows) h) (hk : k < rows.length) (hy : rows.getD k [] = ys) : LV P o s h (some (.rw (.slice (some ⟨g, 0, none⟩) n c) E sz rows)) (.ag ys) := fun w S a hs hh => by
  obtain ⟨xs, hown, hr, hl⟩ := hh.ent _ hm.mem
  have hxe := hs.eval hx
  generalize hev : a.eval x = v at *
  have hlen : ys.length = sz := by
    rw [← hy]
    refine hl _ ?_
    rw [List.getD_eq_getElem?_getD, List.getElem?_eq_getElem hk]
    exact List.getElem_mem hk
  have hxl : k * sz + sz ≤ xs.length := by
    have h1 : xs.length = rows.length * sz := hown.1
    have h2 : (k + 1) * sz ≤ rows.length * sz := Nat.mul_le_mul_right _ hk
    rw [Nat.add_mul, Nat.one_mul] at h2
    omega
  have hvs : VRels w S ys ((xs.drop (k * sz)).take sz) := by
    refine ⟨by simp; omega, fun j u v hu hv => ?_⟩
    have hj : j < sz := by
      rcases Nat.lt_or_ge j sz with h | h
      · exact h
      · rw [List.getElem?_eq_none (by omega)] at hu; cases hu
    rw [List.getElem?_take, if_pos hj, List.getElem?_drop] at hv
    exact hr.2 (k * sz + j) u v ((flat_get hl k j hk hj).trans (by rw [hy]; exact hu)) hv
  cases hxe with
  | rp =>
    refine ⟨.agg ((xs.drop (k * sz)).take sz).toArray, g, fun w' hw' => ?_, .ag hvs.1 hvs.2, .inr ⟨_, rfl, hm.mem, rfl⟩⟩
    have e : ((⟨g, 0, none⟩ : Addr).add (k * sz + 0)) = ⟨g, k * sz, none⟩ := by rw [Addr.add_lit]; simp
    have := run_loadVar' T ht (w := w') (b := g) (o := k * sz) (vs := (xs.drop (k * sz)).take sz) (by simp; omega) (fun e => by cases e) (fun j u hj => by
      rw [List.getElem?_take] at hj
      split at hj
      · rw [List.getElem?_drop] at hj
        have hcell := @World.ownsRow.cells _ _ _ _ _ _ _ hown g rfl _ _ hj
        rw [cell_of_block hw']
        have e2 : ((⟨g, 0, none⟩ : Addr).add (k * sz + j)) = ⟨g, k * sz + j, none⟩ := by rw [Addr.add_lit]; simp
        rw [e2] at hcell
        exact hcell
      · cases hj)
    simp [execOp, ho, hev, Instr.loadAt, Instr.sureAddr, this]
end Go.Tl
