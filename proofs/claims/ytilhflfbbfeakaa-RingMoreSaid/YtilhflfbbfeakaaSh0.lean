/- One more contract, or a greater number: plain, and the drawn regions of RingMore. -/
import Derived.Test.YtilhflfbbfeakaaGSf
import Derived.Test.YtilhflfbbfeakaaGTs
import Derived.Test.YtilhflfbbfeakaaTz
namespace Go.Tl
open Go Go.RowKit
theorem pv_nilCheck_rp {P : Program} {o : Oper} {s : Slots} {x : Operand} {v : Value} {sz k off : Nat} (ho : o.op = .nilCheck x) (hx : evA s x = some (.rp v sz k off)) : PV P o s (.rp v sz k off) := fun w S a hs => by
  have h := hs.eval hx
  generalize hev : a.eval x = u at *
  cases h with
  | rp => exact ⟨_, fun w' => by simp [execOp, ho, hev], .rp⟩
end Go.Tl
namespace Go.Proofs.Ytilhflfbbfeakaa
open Go Go.RowKit Go.Tl
set_option linter.unusedVariables false
set_option linter.unusedSimpArgs false
set_option maxRecDepth 100000
set_option maxHeartbeats 4000000
theorem conOne (cs : List ConD) : ∀ k, k < cs.length → ∀ u ∈ conL (cs.getD k default), oneA (AV.ofTr u) = true := fun k hk u hu => by
  simp only [conL, List.mem_cons, List.not_mem_nil, or_false] at hu
  rcases hu with rfl | rfl | rfl | rfl <;> rfl
theorem conRows_range (l : List ConD) : ((List.range l.length).map fun k => (conL (l.getD k default)).map AV.ofTr) = l.map conRow := by
  refine List.ext_getElem (by simp) fun k h1 h2 => ?_
  simp at h1 h2
  simp [List.getD_eq_getElem?_getD, h1, conL, conRow, AV.ofTr]
theorem conRow_at {l : List ConD} {k : Nat} (h : k < l.length) : (l.map conRow).getD k [] = [intA (l.getD k default).frm, intA (l.getD k default).to, intA (l.getD k default).num, intA (l.getD k default).price] := by
  simp [List.getD_eq_getElem?_getD, h, conRow]
/-- nothing that heights prove is less -/
theorem provF_le {b c : BookD} (F : Nat → Int) (hl : b.cons.length ≤ c.cons.length) (h : ∀ i, i < b.cons.length → (c.cons.getD i default).frm = (b.cons.getD i default).frm ∧ (c.cons.getD i default).to = (b.cons.getD i default).to ∧ (b.cons.getD i default).num ≤ (c.cons.getD i default).num) (h0 : ∀ i, i < c.cons.length → 0 ≤ (c.cons.getD i default).num) : ∀ k, k ≤ c.cons.length → provF b F (min k b.cons.length) ≤ provF c F k
  | 0, _ => by rw [Nat.zero_min]; exact Int.le_refl _
  | k + 1, hk => by
    have ih := provF_le F hl h h0 k (by omega)
    have h1 := h0 k (by omega)
    by_cases c1 : k < b.cons.length
    · obtain ⟨e1, e2, e3⟩ := h k c1
      rw [show min (k + 1) b.cons.length = k + 1 by omega]
      rw [show min k b.cons.length = k by omega] at ih
      simp only [provF]
      rw [e1, e2]
      have := Int.mul_le_mul_of_nonneg_right e3 (show 0 ≤ max 0 (1 + F (b.cons.getD k default).frm.toNat - F (b.cons.getD k default).to.toNat) by omega)
      omega
    · rw [show min (k + 1) b.cons.length = b.cons.length by omega]
      rw [show min k b.cons.length = b.cons.length by omega] at ih
      simp only [provF]
      have : 0 ≤ (c.cons.getD k default).num * max 0 (1 + F (c.cons.getD k default).frm.toNat - F (c.cons.getD k default).to.toNat) := Int.mul_nonneg h1 (by omega)
      omega
theorem provF_le' {b c : BookD} (F : Nat → Int) (hl : b.cons.length ≤ c.cons.length) (h : ∀ i, i < b.cons.length → (c.cons.getD i default).frm = (b.cons.getD i default).frm ∧ (c.cons.getD i default).to = (b.cons.getD i default).to ∧ (b.cons.getD i default).num ≤ (c.cons.getD i default).num) (h0 : ∀ i, i < c.cons.length → 0 ≤ (c.cons.getD i default).num) : provF b F b.cons.length ≤ provF c F c.cons.length := by
  have := provF_le F hl h h0 _ (Nat.le_refl _)
  rwa [Nat.min_eq_right hl] at this
/-- the contracts with one of a greater number -/
def moreC (b : BookD) (k : Nat) (v : Int) : BookD := ⟨b.houses, b.cons.set k ⟨(b.cons.getD k default).frm, (b.cons.getD k default).to, v, (b.cons.getD k default).price⟩⟩
theorem more_at {b : BookD} {k : Nat} {v : Int} {i : Nat} (hi : i < b.cons.length) (hk : k < b.cons.length) : (moreC b k v).cons.getD i default = if i = k then ⟨(b.cons.getD k default).frm, (b.cons.getD k default).to, v, (b.cons.getD k default).price⟩ else b.cons.getD i default := by
  unfold moreC
  simp only [List.getD_eq_getElem?_getD, List.getElem?_set]
  by_cases e : k = i
  · subst e; simp [hk]
  · rw [if_neg e, if_neg (fun h => e h.symm)]
theorem more_valid {b : BookD} (hv : VBook b) {k : Nat} {v : Int} (hk : k < b.cons.length) (h1 : 1 ≤ v ∧ v ≤ 100) : VBook (moreC b k v) := by
  have hl : (moreC b k v).cons.length = b.cons.length := by simp [moreC]
  refine ⟨hv.houses, by rw [hl]; exact hv.len, fun i hi => ?_, fun i hi => ?_, fun i hi => ?_, fun i hi => ?_, fun i hi => ?_⟩ <;> rw [hl] at hi <;> rw [more_at hi hk] <;> split
  · exact hv.frm k hk
  · exact hv.frm i hi
  · exact hv.to k hk
  · exact hv.to i hi
  · exact hv.ne k hk
  · exact hv.ne i hi
  · exact h1
  · exact hv.num i hi
  · exact hv.price k hk
  · exact hv.price i hi
structure YOk (b Y : BookD) : Prop where
  houses : Y.houses = b.houses
  len : Y.cons.length = b.cons.length
  valid : VBook Y
  le : ∀ F : Nat → Int, provF b F b.cons.length ≤ provF Y F Y.cons.length
theorem more_ok {b : BookD} (hv : VBook b) {k : Nat} {v : Int} (hk : k < b.cons.length) (h1 : (b.cons.getD k default).num ≤ v ∧ v ≤ 100) : YOk b (moreC b k v) := by
  have hl : (moreC b k v).cons.length = b.cons.length := by simp [moreC]
  have hn := hv.num k hk
  have hV := more_valid hv hk (v := v) (by omega)
  refine ⟨rfl, hl, hV, fun F => provF_le' F (by omega) (fun i hi => ?_) (fun i hi => by have := (hV.num i hi).1; omega)⟩
  rw [more_at hi hk]
  split
  · rename_i e; subst e; exact ⟨rfl, rfl, h1.1⟩
  · exact ⟨rfl, rfl, Int.le_refl _⟩
theorem same_ok {b : BookD} (hv : VBook b) : YOk b b := ⟨rfl, rfl, hv, fun F => Int.le_refl _⟩
theorem tree_at {l : List ConD} : ∀ k, k < l.length → (l.map conRow).getD k [] = ((fun q => conL (l.getD q default)) k).map AV.ofTr := rows_tree l conRow conL (fun _ => rfl)
attribute [local irreducible] AWP AWL AOp PV LV AWT AWE
section
variable {b : BookD} {g4 g5 g9 g10 n k : Nat} {u2 u3 u11 : AV} {more : ConD} {x y z : Ent} {w : Int}
theorem rm_3 {ops : Array Oper} (h : regF Try.f9 3 = some ops) :
    AWP Try.prog Try.f9.ntmps none (.region 3 ops true) (cutQ (fun s h => ∃ g9 g10, s = [(9, .v (ptrV g9)), (10, .v (ptrV g10)), (2, u2), (3, u3), (4, .v (ptrV g4)), (5, .v (ptrV g5))] ∧ h = [refB g4 b, x, .cl g9 24 [intA b.houses, .t (consT false b.cons)], .cl g10 24 [intA b.houses, .t (consT false b.cons)]]))
      [(2, u2), (3, u3), (4, .v (ptrV g4)), (5, .v (ptrV g5))] [refB g4 b, x] := by
  cases h
  refine awp_tree T0 [(0, 1), (1, 1), (2, 2), (3, 2), (4, 2), (5, 3)] (.op 0 1 (.op 1 1 (.fork 2 (.op 3 2 (.op 4 2 (.op 5 3 .stop))) 3 (.op 2 2 (.op 4 2 (.op 5 3 .stop)))))) [.cl g4 _ _] rfl (by kernel_rfl) (by solve | repeat' constructor) ?_
  refine awt_lo rfl (wt_none rfl) (lv_cla T0 rfl rfl rfl (by solve | repeat' constructor) rfl) rfl rfl rfl ?_
  refine awt_lo rfl (wt_none rfl) (lv_cla T0 rfl rfl rfl (by solve | repeat' constructor) rfl) rfl rfl rfl ?_
  refine awt_fork ?_ ?_
  · skip
    refine awt_h (hm := []) rfl (wt_none rfl) (by solve | repeat' constructor) rfl (st_alloc T0 rfl rfl rfl rfl (by simp only [Value.cells, List.toList_toArray, List.map_cons, List.map_nil]; rfl) ?_)
    intro g9
    refine awt_h (hm := []) rfl (wt_none rfl) (by solve | repeat' constructor) rfl (st_alloc T0 rfl rfl rfl rfl (by simp only [Value.cells, List.toList_toArray, List.map_cons, List.map_nil]; rfl) ?_)
    intro g10
    refine awt_h (hm := _) rfl (wt_none rfl) ?sub rfl (st_store_o T0 rfl rfl rfl rfl rfl (by first | assumption | (simp only [cellsA]; rfl)) rfl rfl rfl (by solve | repeat' constructor) (by solve | repeat' constructor) ?_)
    case sub => exact (by solve | repeat' constructor)
    refine awt_s (md := fun _ => True) rfl (wt_none rfl) (st_store T0 rfl rfl rfl rfl rfl (by first | assumption | (simp only [cellsA]; rfl)) rfl rfl rfl (by solve | repeat' constructor) (by solve | repeat' constructor) trivial ?_)
    refine awe_end ?_
    exact cut_n ⟨_, _, rfl, rfl⟩ (by first | ((repeat' (first | exact True.intro | refine ⟨rfl, ?_⟩)); all_goals fail) | fail) (by solve | repeat' constructor)
  · skip
    refine awt_h (hm := []) rfl (wt_none rfl) (by solve | repeat' constructor) rfl (st_alloc T0 rfl rfl rfl rfl (by simp only [Value.cells, List.toList_toArray, List.map_cons, List.map_nil]; rfl) ?_)
    intro g10
    refine awt_h (hm := []) rfl (wt_none rfl) (by solve | repeat' constructor) rfl (st_alloc T0 rfl rfl rfl rfl (by simp only [Value.cells, List.toList_toArray, List.map_cons, List.map_nil]; rfl) ?_)
    intro g9
    refine awt_h (hm := _) rfl (wt_none rfl) ?sub rfl (st_store_o T0 rfl rfl rfl rfl rfl (by first | assumption | (simp only [cellsA]; rfl)) rfl rfl rfl (by solve | repeat' constructor) (by solve | repeat' constructor) ?_)
    case sub => exact (by solve | repeat' constructor)
    refine awt_s (md := fun _ => True) rfl (wt_none rfl) (st_store T0 rfl rfl rfl rfl rfl (by first | assumption | (simp only [cellsA]; rfl)) rfl rfl rfl (by solve | repeat' constructor) (by solve | repeat' constructor) trivial ?_)
    refine awe_end ?_
    exact cut_n ⟨_, _, rfl, rfl⟩ (by first | ((repeat' (first | exact True.intro | refine ⟨rfl, ?_⟩)); all_goals fail) | fail) (by solve | repeat' constructor)
theorem rm_4 (hl : b.cons.length ≤ 1000) {ops : Array Oper} (h : regF Try.f9 4 = some ops) :
    AWP Try.prog Try.f9.ntmps none (.region 4 ops true) (cutQ (fun s h => ∃ a c, s = [(9, .v (ptrV g9)), (10, .v (ptrV g10)), (2, u2), (3, u3), (4, .v (ptrV g4))] ∧ h = [refB g4 b, .cl g9 24 [intA b.houses, .v (.slice a (b.cons.length + 1) c)], .rw (.slice a (b.cons.length + 1) c) 67 4 (b.cons.map conRow ++ [conRow more]), y]))
      [(9, .v (ptrV g9)), (10, .v (ptrV g10)), (2, u2), (3, u3), (4, .v (ptrV g4)), (5, .v (ptrV g5))] [refB g4 b, .cl g5 67 [intA more.frm, intA more.to, intA more.num, intA more.price], .cl g9 24 [intA b.houses, .t (consT false b.cons)], y] := by
  cases h
  refine awp_tree T0 [(1, 0), (2, 1), (4, 1), (0, 2), (3, 2), (5, 2), (6, 3), (7, 0), (8, 3)] (.op 1 0 (.op 2 1 (.op 4 1 (.fork 0 (.fork 3 (.op 5 2 (.op 6 3 (.op 7 0 (.op 8 3 .stop)))) 5 (.op 3 2 (.op 6 3 (.op 7 0 (.op 8 3 .stop))))) 5 (.op 0 2 (.op 3 2 (.op 6 3 (.op 7 0 (.op 8 3 .stop))))))))) [.cl g4 _ _, .cl g5 _ _] rfl (by kernel_rfl) (by solve | repeat' constructor) ?_
  refine awt_po rfl (wt_none rfl) (pv_fa T0 rfl rfl rfl (by simp; rfl)) rfl rfl ?_
  refine awt_lo rfl (wt_none rfl) (lv_cl1 T0 rfl rfl rfl (by solve | repeat' constructor) (by first | rfl | assumption)) rfl rfl rfl ?_
  refine awt_lo rfl (wt_none rfl) (lv_cla T0 rfl rfl rfl (by solve | repeat' constructor) rfl) rfl rfl rfl ?_
  refine awt_fork ?_ ?_
  · skip
    refine awt_h (hm := []) rfl (wt_none rfl) (by solve | repeat' constructor) rfl (st_bsl T0 rfl rfl rfl rfl rfl (by solve | repeat' constructor) rfl rfl rfl rfl (by simp only [List.map_cons, List.map_nil, cellsA]; rfl) ?_)
    intro g29
    refine awt_fork ?_ ?_
    · skip
      refine awt_h (hm := _) rfl (wt_none rfl) ?sub rfl (st_appt_o T0 rfl rfl rfl rfl rfl rfl rfl rfl rfl (by solve | repeat' constructor) (by first | exact conOne _ | (intro k hk u hu; simp at hu; subst hu; rfl)) (by rfl) (by first | omega | (simp; omega)) rfl ?_)
      case sub => exact (by solve | repeat' constructor)
      intro a32 c32 p32
      refine awt_h (hm := []) rfl (wt_none rfl) (by solve | repeat' constructor) rfl (st_bsl T0 rfl rfl rfl rfl rfl (by solve | repeat' constructor) rfl rfl rfl rfl (by simp only [List.map_cons, List.map_nil, cellsA]; rfl) ?_)
      intro g34
      refine awt_s (md := fun _ => True) rfl (wt_none rfl) (st_app T0 rfl rfl rfl rfl rfl rfl rfl rfl rfl (by solve | repeat' constructor) (by solve | repeat' constructor) rfl rfl (by simp; rfl) (by omega) (fun _ _ => trivial) ?_)
      intro a35 c35 p35
      first
        | refine awe_p rfl (wt_none rfl) (pv_fa T0 rfl rfl rfl (by simp; rfl)) rfl rfl ?_
        | refine awe_p rfl (wt_none rfl) (pv_fa_elt T0 rfl rfl rfl (by simp; rfl)) rfl rfl ?_
        | refine awe_p rfl (wt_none rfl) (pv_fa_rp T0 rfl rfl rfl (by simp; rfl)) rfl rfl ?_
      refine awe_s (md := fun _ => True) rfl (wt_none rfl) (st_store T0 rfl rfl rfl rfl rfl (by first | assumption | (simp only [cellsA]; rfl)) rfl rfl rfl (by solve | repeat' constructor) (by solve | repeat' constructor) trivial ?_)
      refine awe_end ?_
      simp only [List.nil_append, Nat.zero_add, conRows_range]
      exact cut_n ⟨_, _, rfl, rfl⟩ (by first | ((repeat' (first | exact True.intro | refine ⟨rfl, ?_⟩)); all_goals fail) | fail) (by solve | repeat' constructor)
    · skip
      refine awt_h (hm := []) rfl (wt_none rfl) (by solve | repeat' constructor) rfl (st_bsl T0 rfl rfl rfl rfl rfl (by solve | repeat' constructor) rfl rfl rfl rfl (by simp only [List.map_cons, List.map_nil, cellsA]; rfl) ?_)
      intro g34
      refine awt_h (hm := _) rfl (wt_none rfl) ?sub rfl (st_appt_o T0 rfl rfl rfl rfl rfl rfl rfl rfl rfl (by solve | repeat' constructor) (by first | exact conOne _ | (intro k hk u hu; simp at hu; subst hu; rfl)) (by rfl) (by first | omega | (simp; omega)) rfl ?_)
      case sub => exact (by solve | repeat' constructor)
      intro a32 c32 p32
      refine awt_s (md := fun _ => True) rfl (wt_none rfl) (st_app T0 rfl rfl rfl rfl rfl rfl rfl rfl rfl (by solve | repeat' constructor) (by solve | repeat' constructor) rfl rfl (by simp; rfl) (by omega) (fun _ _ => trivial) ?_)
      intro a35 c35 p35
      first
        | refine awe_p rfl (wt_none rfl) (pv_fa T0 rfl rfl rfl (by simp; rfl)) rfl rfl ?_
        | refine awe_p rfl (wt_none rfl) (pv_fa_elt T0 rfl rfl rfl (by simp; rfl)) rfl rfl ?_
        | refine awe_p rfl (wt_none rfl) (pv_fa_rp T0 rfl rfl rfl (by simp; rfl)) rfl rfl ?_
      refine awe_s (md := fun _ => True) rfl (wt_none rfl) (st_store T0 rfl rfl rfl rfl rfl (by first | assumption | (simp only [cellsA]; rfl)) rfl rfl rfl (by solve | repeat' constructor) (by solve | repeat' constructor) trivial ?_)
      refine awe_end ?_
      simp only [List.nil_append, Nat.zero_add, conRows_range]
      exact cut_n ⟨_, _, rfl, rfl⟩ (by first | ((repeat' (first | exact True.intro | refine ⟨rfl, ?_⟩)); all_goals fail) | fail) (by solve | repeat' constructor)
  · skip
    refine awt_h (hm := []) rfl (wt_none rfl) (by solve | repeat' constructor) rfl (st_bsl T0 rfl rfl rfl rfl rfl (by solve | repeat' constructor) rfl rfl rfl rfl (by simp only [List.map_cons, List.map_nil, cellsA]; rfl) ?_)
    intro g34
    refine awt_h (hm := []) rfl (wt_none rfl) (by solve | repeat' constructor) rfl (st_bsl T0 rfl rfl rfl rfl rfl (by solve | repeat' constructor) rfl rfl rfl rfl (by simp only [List.map_cons, List.map_nil, cellsA]; rfl) ?_)
    intro g29
    refine awt_h (hm := _) rfl (wt_none rfl) ?sub rfl (st_appt_o T0 rfl rfl rfl rfl rfl rfl rfl rfl rfl (by solve | repeat' constructor) (by first | exact conOne _ | (intro k hk u hu; simp at hu; subst hu; rfl)) (by rfl) (by first | omega | (simp; omega)) rfl ?_)
    case sub => exact (by solve | repeat' constructor)
    intro a32 c32 p32
    refine awt_s (md := fun _ => True) rfl (wt_none rfl) (st_app T0 rfl rfl rfl rfl rfl rfl rfl rfl rfl (by solve | repeat' constructor) (by solve | repeat' constructor) rfl rfl (by simp; rfl) (by omega) (fun _ _ => trivial) ?_)
    intro a35 c35 p35
    first
      | refine awe_p rfl (wt_none rfl) (pv_fa T0 rfl rfl rfl (by simp; rfl)) rfl rfl ?_
      | refine awe_p rfl (wt_none rfl) (pv_fa_elt T0 rfl rfl rfl (by simp; rfl)) rfl rfl ?_
      | refine awe_p rfl (wt_none rfl) (pv_fa_rp T0 rfl rfl rfl (by simp; rfl)) rfl rfl ?_
    refine awe_s (md := fun _ => True) rfl (wt_none rfl) (st_store T0 rfl rfl rfl rfl rfl (by first | assumption | (simp only [cellsA]; rfl)) rfl rfl rfl (by solve | repeat' constructor) (by solve | repeat' constructor) trivial ?_)
    refine awe_end ?_
    simp only [List.nil_append, Nat.zero_add, conRows_range]
    exact cut_n ⟨_, _, rfl, rfl⟩ (by first | ((repeat' (first | exact True.intro | refine ⟨rfl, ?_⟩)); all_goals fail) | fail) (by solve | repeat' constructor)
theorem rm_8 {ga q : Nat} {c : Nat} (hw : w.tmod (n : Int) = (q : Int)) (hq : q < n) (hn : n ≤ 1000) (hw0 : 0 ≤ w ∧ w ≤ 255) {rows : List (List AV)} {ops : Array Oper} (h : regF Try.f9 8 = some ops) :
    AWP Try.prog Try.f9.ntmps none (.region 8 ops true) (cutQ (fun s h => s = [(12, .rp (.slice (some ⟨ga, 0, none⟩) n c) 4 q 0), (9, .v (ptrV g9)), (10, .v (ptrV g10)), (3, u3), (4, .v (ptrV g4))] ∧ h = [x, y, .cl g10 24 [intA b.houses, .v (.slice (some ⟨ga, 0, none⟩) n c)], .rw (.slice (some ⟨ga, 0, none⟩) n c) 67 4 rows, z]))
      [(11, intA n), (9, .v (ptrV g9)), (10, .v (ptrV g10)), (2, .v (.int .u8 w)), (3, u3), (4, .v (ptrV g4))] [x, y, .cl g10 24 [intA b.houses, .v (.slice (some ⟨ga, 0, none⟩) n c)], .rw (.slice (some ⟨ga, 0, none⟩) n c) 67 4 rows, z] := by
  cases h
  refine awp_tree T0 [(0, 0), (1, 1), (2, 0), (3, 0), (4, 0), (5, 0), (6, 0), (7, 0)] (.op 0 0 (.op 1 1 (.op 2 0 (.op 3 0 (.op 4 0 (.op 5 0 (.op 6 0 (.op 7 0 .stop)))))))) [.cl g10 _ _] rfl (by kernel_rfl) (by solve | repeat' constructor) ?_
  refine awt_po rfl (wt_none rfl) (pv_fa T0 rfl rfl rfl (by simp; rfl)) rfl rfl ?_
  refine awt_lo rfl (wt_none rfl) (lv_cl1 T0 rfl rfl rfl (by solve | repeat' constructor) (by first | rfl | assumption)) rfl rfl rfl ?_
  refine awt_po rfl (wt_none rfl) (pv_move rfl rfl) rfl rfl ?_
  refine awt_po rfl (wt_none rfl) (pv_convert rfl rfl Try.underlying5 Try.underlying3 (by first | assumption | exact wr64 (by omega))) rfl rfl ?_
  refine awt_po rfl (wt_none rfl) (pv_move rfl rfl) rfl rfl ?_
  refine awt_po rfl (wt_none rfl) (pv_rem rfl rfl rfl (by omega) (by first | assumption | rfl)) rfl rfl ?_
  refine awt_po rfl (wt_none rfl) (pv_ix_own T0 rfl rfl rfl rfl (by omega) (by first | exact Int.toNat_natCast _ | rfl)) rfl rfl ?_
  refine awt_po rfl (wt_none rfl) (pv_assign rfl rfl) rfl rfl ?_
  refine awt_end ?_
  exact cut_n ⟨rfl, rfl⟩ (by first | ((repeat' (first | exact True.intro | refine ⟨rfl, ?_⟩)); all_goals fail) | fail) (by solve | repeat' constructor)
end
end Go.Proofs.Ytilhflfbbfeakaa
