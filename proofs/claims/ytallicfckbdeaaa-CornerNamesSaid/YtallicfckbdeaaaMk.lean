/- Lists of structs are made. -/
import Derived.Test.YtallicfckbdeaaaGTy
import Derived.Test.YtallicfckbdeaaaGTx
namespace Go.Tl
open Go Go.RowKit
set_option linter.unusedVariables false
set_option linter.unusedSimpArgs false
theorem flat_rep {α : Type} (l : List α) : ∀ n q, q < n * l.length → (List.replicate n l).flatten[q]? = l[q % l.length]?
  | 0, q, h => by rw [Nat.zero_mul] at h; omega
  | n + 1, q, h => by
    rw [List.replicate_succ, List.flatten_cons]
    by_cases c : q < l.length
    · rw [List.getElem?_append_left c, Nat.mod_eq_of_lt c]
    · rw [List.getElem?_append_right (by omega), flat_rep l n (q - l.length) (by rw [Nat.add_mul, Nat.one_mul] at h; omega), Nat.mod_eq_sub_mod (by omega : l.length ≤ q)]
section
variable {P : Program} {N : Nat} {o : Oper} {s : Slots}
variable {md : Nat → Prop} {h : List Ent} {K : Slots → List Ent → Prop}
theorem aop_makeG (T : TT P) {t e sz bt d n : Nat} {z : Value} {x y : Operand} {row : List AV} (ho : o.op = .makeSlice t x y) (hd : o.dst = some d) (hN : Nat.blt d N = true) (ht : f2 T.elm t = some (e, sz, bt)) (hz : f2 T.zer e = some z) (hz1 : z.cells.size = sz) (hx : evA s x = some (intA n)) (hy : evA s y = some (intA n)) (hn : n ≤ 1000000) (hbt : Nat.ble bt 1000 = true) (hsz : Nat.ble sz 1000 = true)
    (hrow : z.cells.toList.map AV.v = row) (hK : ∀ g, K ((d, .v (.slice (some ⟨g, 0, none⟩) n n)) :: s) (.rw (.slice (some ⟨g, 0, none⟩) n n) e sz (List.replicate n row) :: h)) : AOp P N o md s h K := fun B w S a hs Kr Qr hk => by
  obtain ⟨j, hund, hj, hjs, hjb, hne⟩ := T.elm_at ht
  have h1 := zOk_at T.zerOk hz
  obtain ⟨i, hi, hiz⟩ := Option.map_eq_some_iff.1 h1
  rw [hj] at hi
  simp at hi
  subst hi
  have hbt' := Nat.le_of_ble_eq_true hbt
  have hsz' := Nat.le_of_ble_eq_true hsz
  have hcl : (madeCells z.cells (n * j.size)).toList = (List.replicate n z.cells.toList).flatten := by
    refine List.ext_getElem? fun q => ?_
    by_cases c : q < n * sz
    · rw [flat_rep z.cells.toList n q (by simpa [hz1] using c)]
      rw [← hz1] at c
      have hs0 : z.cells.size ≠ 0 := fun e => by rw [e] at c; omega
      have hm : q % z.cells.size < z.cells.size := Nat.mod_lt _ (by omega)
      have hq : q < n * j.size := by rw [hjs, ← hz1]; exact c
      simp [madeCells, hq, hm]
    · have : ¬ q < n * j.size := by rw [hjs]; exact c
      rw [List.getElem?_eq_none (by simp [madeCells]; omega), List.getElem?_eq_none (by simp [hz1]; omega)]
  generalize hmc : madeCells z.cells (n * j.size) = cs at *
  have hcs : cs.size = n * sz := by
    have := congrArg List.length hcl
    simpa [hz1] using this
  have hrun : (execOp a.eval o).run P w = .ok (.value (.slice (some ⟨w.heap.size, 0, none⟩) n n)) (w.alloc (.cells cs e)) := by
    have hb2 : (j.bytes : Int) * (n : Int) ≤ 281474976710656 := by
      rw [hjb]
      have : bt * n ≤ 1000000000 := Nat.le_trans (Nat.mul_le_mul hbt' hn) (by decide)
      rw [← Int.natCast_mul]
      omega
    have := run_make (P := P) w t e j z hund hj hiz .i64 .i64 n n (by omega) (by omega) hb2 (by omega)
    simp only [Int.toNat_natCast, hmc] at this
    simp [execOp, ho, hs.slots.lit hx, hs.slots.lit hy, this]
  unfold wpX
  rw [hd] at hk
  rw [hrun, Oper.uponIn_value, hd]
  have hold := fun b hb => alloc_old w (.cells cs e) b hb
  have hfl : (List.replicate n row).flatten = cs.toList.map AV.v := by
    rw [hcl, ← hrow, List.map_flatten, List.map_replicate]
  refine hk _ _ S _ _ (hK w.heap.size) ((hs.push (w' := w.alloc (.cells cs e)) (grw_alloc _ _) (e := .rw (.slice (some ⟨w.heap.size, 0, none⟩) n n) e sz (List.replicate n row)) ⟨cs.toList, ?_, by rw [hfl]; exact .lits _, fun r hr => by rw [(List.mem_replicate.1 hr).2, ← hrow]; simpa using hz1⟩ (fun g hg => by simp [Ent.blk, Value.ownBlock] at hg; omega)).put (.v _) (blt_lt hN)) (upd_push (by simp) hold)
  have hms : n * sz ≤ 1000000000 := Nat.le_trans (Nat.mul_le_mul hn hsz') (by decide)
  have := World.ownsRow_lit (base := 0) (e := e) (size := sz) w cs n (Nat.zero_le _) (by unfold maxLen; omega) (by rw [hcs])
  simpa using this
end
end Go.Tl
