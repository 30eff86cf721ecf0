/- The law RingTurned: its walk (Try.func10). -/
import Derived.Test.YtilhflfbbfeakaaZtSh0
import Derived.Test.YtilhflfbbfeakaaZtDh
import Derived.Test.YtilhflfbbfeakaaTz
namespace Go.Proofs.Ytilhflfbbfeakaa
open Go Go.RowKit Go.Tl
set_option linter.unusedVariables false
set_option linter.unusedSimpArgs false
set_option maxRecDepth 100000
set_option maxHeartbeats 4000000
theorem tmod_sig {H B j : Nat} {x y h : Int} (hx : x = (j : Int)) (hy : y = (B : Int)) (hh : h = (H : Int)) : (x + y).tmod h = ((sig H B j : Nat) : Int) := by
  subst hx hy hh
  show ((j : Int) + (B : Int)).tmod (H : Int) = (((j + B) % H : Nat) : Int)
  rw [← Int.natCast_add]
  rfl
theorem map_step' {cs : List ConD} {g : ConD → ConD} {k : Nat} (h : k < cs.length) : ((cs.take (k + 1)).map g).map conRow = ((cs.take k).map g).map conRow ++ [conRow (g (cs.getD k default))] := by
  rw [List.map_map, List.map_map]
  exact rows_step (d := default) (conRow ∘ g) h
theorem netL_bd' {b : BookD} {f : Nat → Int} (hl : b.cons.length ≤ 8) (hf : ∀ i, i < b.cons.length → -1000000 ≤ f i ∧ f i ≤ 1000000) : ∀ x ∈ netL b f, -1000000000 ≤ x ∧ x ≤ 1000000000 := fun x hx => by
  obtain ⟨h, -, rfl⟩ := List.mem_map.1 hx
  have := acc_small (cs := b.cons) (f := f) (k := b.cons.length) (h := h) hl hf
  omega
attribute [local irreducible] AWP AWL AOp PV LV AWT AWE
abbrev tuS (u1 u2 : AV) (g3 : Nat) : Slots := [(1, u1), (2, u2), (3, .v (ptrV g3))]
section
variable {b : BookD} {u1 u2 : AV} {g3 g7 g8 g10 g11 i : Nat} {rest : List Ent}
theorem tu_3 {ops : Array Oper} (h : regF Try.f10 3 = some ops) :
    AWP Try.prog Try.f10.ntmps none (.region 3 ops true) (cutQ (fun s h => ∃ g7 g8, s = (7, .v (ptrV g7)) :: (8, .v (ptrV g8)) :: tuS u1 u2 g3 ∧ h = [refB g3 b, .cl g7 24 [intA b.houses, noneA], .cl g8 24 [intA b.houses, noneA]])) (tuS u1 u2 g3) [refB g3 b] := by
  cases h
  refine awp_tree T0 [(0, 0), (1, 1), (2, 0), (3, 0), (4, 1), (5, 0), (6, 2), (7, 2), (8, 2), (9, 3)] (.op 0 0 (.op 1 1 (.op 2 0 (.op 3 0 (.op 4 1 (.op 5 0 (.fork 6 (.op 7 2 (.op 8 2 (.op 9 3 .stop))) 7 (.op 6 2 (.op 8 2 (.op 9 3 .stop)))))))))) [.cl g3 _ _] rfl (by kernel_rfl) (by solve | repeat' constructor) ?_
  refine awt_po rfl (wt_none rfl) (pv_fa T0 rfl rfl rfl (by simp; rfl)) rfl rfl ?_
  refine awt_lo rfl (wt_none rfl) (lv_cl1 T0 rfl rfl rfl (by solve | repeat' constructor) (by first | rfl | assumption)) rfl rfl rfl ?_
  refine awt_po rfl (wt_none rfl) (pv_build T0 rfl rfl rfl (by simp only [Value.cells, List.toList_toArray, List.map_cons, List.map_nil]; rfl) (by first | ((repeat' (first | exact BParts.nil | apply BParts.cons | rfl)); all_goals fail) | fail) (by first | ((repeat' (first | exact FillA.nil | exact Sp.done | apply FillA.cons | apply Sp.put | apply Sp.skip | (simp only [cellsA]; rfl) | rfl)); all_goals fail) | fail)) rfl rfl ?_
  refine awt_po rfl (wt_none rfl) (pv_fa T0 rfl rfl rfl (by simp; rfl)) rfl rfl ?_
  refine awt_lo rfl (wt_none rfl) (lv_cl1 T0 rfl rfl rfl (by solve | repeat' constructor) (by first | rfl | assumption)) rfl rfl rfl ?_
  refine awt_po rfl (wt_none rfl) (pv_build T0 rfl rfl rfl (by simp only [Value.cells, List.toList_toArray, List.map_cons, List.map_nil]; rfl) (by first | ((repeat' (first | exact BParts.nil | apply BParts.cons | rfl)); all_goals fail) | fail) (by first | ((repeat' (first | exact FillA.nil | exact Sp.done | apply FillA.cons | apply Sp.put | apply Sp.skip | (simp only [cellsA]; rfl) | rfl)); all_goals fail) | fail)) rfl rfl ?_
  refine awt_fork ?_ ?_
  · skip
    refine awt_h (hm := []) rfl (wt_none rfl) (by solve | repeat' constructor) rfl (st_alloc T0 rfl rfl rfl rfl (by simp only [Value.cells, List.toList_toArray, List.map_cons, List.map_nil]; rfl) ?_)
    intro g7
    refine awt_h (hm := []) rfl (wt_none rfl) (by solve | repeat' constructor) rfl (st_alloc T0 rfl rfl rfl rfl (by simp only [Value.cells, List.toList_toArray, List.map_cons, List.map_nil]; rfl) ?_)
    intro g8
    refine awt_h (hm := _) rfl (wt_none rfl) ?sub rfl (st_store_o T0 rfl rfl rfl rfl rfl (by first | assumption | (simp only [cellsA]; rfl)) rfl rfl rfl (by solve | repeat' constructor) (by solve | repeat' constructor) ?_)
    case sub => exact (by solve | repeat' constructor)
    refine awt_s (md := fun _ => True) rfl (wt_none rfl) (st_store T0 rfl rfl rfl rfl rfl (by first | assumption | (simp only [cellsA]; rfl)) rfl rfl rfl (by solve | repeat' constructor) (by solve | repeat' constructor) trivial ?_)
    refine awe_end ?_
    exact cut_n ⟨_, _, rfl, rfl⟩ (by first | ((repeat' (first | exact True.intro | refine ⟨rfl, ?_⟩)); all_goals fail) | fail) (by solve | repeat' constructor)
  · skip
    refine awt_h (hm := []) rfl (wt_none rfl) (by solve | repeat' constructor) rfl (st_alloc T0 rfl rfl rfl rfl (by simp only [Value.cells, List.toList_toArray, List.map_cons, List.map_nil]; rfl) ?_)
    intro g8
    refine awt_h (hm := []) rfl (wt_none rfl) (by solve | repeat' constructor) rfl (st_alloc T0 rfl rfl rfl rfl (by simp only [Value.cells, List.toList_toArray, List.map_cons, List.map_nil]; rfl) ?_)
    intro g7
    refine awt_h (hm := _) rfl (wt_none rfl) ?sub rfl (st_store_o T0 rfl rfl rfl rfl rfl (by first | assumption | (simp only [cellsA]; rfl)) rfl rfl rfl (by solve | repeat' constructor) (by solve | repeat' constructor) ?_)
    case sub => exact (by solve | repeat' constructor)
    refine awt_s (md := fun _ => True) rfl (wt_none rfl) (st_store T0 rfl rfl rfl rfl rfl (by first | assumption | (simp only [cellsA]; rfl)) rfl rfl rfl (by solve | repeat' constructor) (by solve | repeat' constructor) trivial ?_)
    refine awe_end ?_
    exact cut_n ⟨_, _, rfl, rfl⟩ (by first | ((repeat' (first | exact True.intro | refine ⟨rfl, ?_⟩)); all_goals fail) | fail) (by solve | repeat' constructor)
theorem tu_7 {x y z w : Ent} (hi : i < b.cons.length) {ops : Array Oper} (h : regF Try.f10 7 = some ops) :
    AWP Try.prog Try.f10.ntmps none (.region 7 ops true) (cutQ (fun s h => ∃ g10 g11, s = (10, .v (ptrV g10)) :: (11, .v (ptrV g11)) :: (7, .v (ptrV g7)) :: (8, .v (ptrV g8)) :: (9, intA i) :: tuS u1 u2 g3 ∧
      h = [refB g3 b, x, y, z, w, .cl g10 67 [intA (b.cons.getD i default).frm, intA (b.cons.getD i default).to, intA (b.cons.getD i default).num, intA (b.cons.getD i default).price], .cl g11 67 [intA (b.cons.getD i default).frm, intA (b.cons.getD i default).to, intA (b.cons.getD i default).num, intA (b.cons.getD i default).price]]))
      ((7, .v (ptrV g7)) :: (8, .v (ptrV g8)) :: (9, intA i) :: tuS u1 u2 g3) [refB g3 b, x, y, z, w] := by
  cases h
  refine awp_tree T0 [(0, 0), (1, 1), (2, 0), (3, 0), (4, 1), (5, 0), (6, 1), (7, 0), (8, 0), (9, 1), (10, 2), (11, 2), (12, 2), (13, 3)] (.op 0 0 (.op 1 1 (.op 2 0 (.op 3 0 (.op 4 1 (.op 5 0 (.op 6 1 (.op 7 0 (.op 8 0 (.op 9 1 (.fork 10 (.op 11 2 (.op 12 2 (.op 13 3 .stop))) 11 (.op 10 2 (.op 12 2 (.op 13 3 .stop)))))))))))))) [.cl g3 _ _] rfl (by kernel_rfl) (by solve | repeat' constructor) ?_
  refine awt_po rfl (wt_none rfl) (pv_fa T0 rfl rfl rfl (by simp; rfl)) rfl rfl ?_
  refine awt_lo rfl (wt_none rfl) (lv_cl1 T0 rfl rfl rfl (by solve | repeat' constructor) (by first | rfl | assumption)) rfl rfl rfl ?_
  refine awt_po rfl (wt_none rfl) (pv_move rfl rfl) rfl rfl ?_
  refine awt_po rfl (wt_none rfl) (pv_ix_t T0 rfl rfl rfl rfl (by omega) (by first | exact (rfl : Int.toNat 0 = 0) | exact Int.toNat_natCast _ | rfl)) rfl rfl ?_
  refine awt_lo rfl (wt_none rfl) (lv_elt_ag T0 rfl rfl rfl rfl (by solve | repeat' constructor)) rfl rfl rfl ?_
  refine awt_po rfl (wt_none rfl) (pv_fa T0 rfl rfl rfl (by simp; rfl)) rfl rfl ?_
  refine awt_lo rfl (wt_none rfl) (lv_cl1 T0 rfl rfl rfl (by solve | repeat' constructor) (by first | rfl | assumption)) rfl rfl rfl ?_
  refine awt_po rfl (wt_none rfl) (pv_move rfl rfl) rfl rfl ?_
  refine awt_po rfl (wt_none rfl) (pv_ix_t T0 rfl rfl rfl rfl (by omega) (by first | exact (rfl : Int.toNat 0 = 0) | exact Int.toNat_natCast _ | rfl)) rfl rfl ?_
  refine awt_lo rfl (wt_none rfl) (lv_elt_ag T0 rfl rfl rfl rfl (by solve | repeat' constructor)) rfl rfl rfl ?_
  refine awt_fork ?_ ?_
  · skip
    refine awt_h (hm := []) rfl (wt_none rfl) (by solve | repeat' constructor) rfl (st_alloc T0 rfl rfl rfl rfl (by simp only [Value.cells, List.toList_toArray, List.map_cons, List.map_nil]; rfl) ?_)
    intro g10
    refine awt_h (hm := []) rfl (wt_none rfl) (by solve | repeat' constructor) rfl (st_alloc T0 rfl rfl rfl rfl (by simp only [Value.cells, List.toList_toArray, List.map_cons, List.map_nil]; rfl) ?_)
    intro g11
    refine awt_h (hm := _) rfl (wt_none rfl) ?sub rfl (st_store_o T0 rfl rfl rfl rfl rfl (by first | assumption | (simp only [cellsA]; rfl)) rfl rfl rfl (by solve | repeat' constructor) (by solve | repeat' constructor) ?_)
    case sub => exact (by solve | repeat' constructor)
    refine awt_s (md := fun _ => True) rfl (wt_none rfl) (st_store T0 rfl rfl rfl rfl rfl (by first | assumption | (simp only [cellsA]; rfl)) rfl rfl rfl (by solve | repeat' constructor) (by solve | repeat' constructor) trivial ?_)
    refine awe_end ?_
    exact cut_n ⟨_, _, rfl, rfl⟩ (by first | ((repeat' (first | exact True.intro | refine ⟨rfl, ?_⟩)); all_goals fail) | fail) (by solve | repeat' constructor)
  · skip
    refine awt_h (hm := []) rfl (wt_none rfl) (by solve | repeat' constructor) rfl (st_alloc T0 rfl rfl rfl rfl (by simp only [Value.cells, List.toList_toArray, List.map_cons, List.map_nil]; rfl) ?_)
    intro g11
    refine awt_h (hm := []) rfl (wt_none rfl) (by solve | repeat' constructor) rfl (st_alloc T0 rfl rfl rfl rfl (by simp only [Value.cells, List.toList_toArray, List.map_cons, List.map_nil]; rfl) ?_)
    intro g10
    refine awt_h (hm := _) rfl (wt_none rfl) ?sub rfl (st_store_o T0 rfl rfl rfl rfl rfl (by first | assumption | (simp only [cellsA]; rfl)) rfl rfl rfl (by solve | repeat' constructor) (by solve | repeat' constructor) ?_)
    case sub => exact (by solve | repeat' constructor)
    refine awt_s (md := fun _ => True) rfl (wt_none rfl) (st_store T0 rfl rfl rfl rfl rfl (by first | assumption | (simp only [cellsA]; rfl)) rfl rfl rfl (by solve | repeat' constructor) (by solve | repeat' constructor) trivial ?_)
    refine awe_end ?_
    exact cut_n ⟨_, _, rfl, rfl⟩ (by first | ((repeat' (first | exact True.intro | refine ⟨rfl, ?_⟩)); all_goals fail) | fail) (by solve | repeat' constructor)
theorem tu_9 {c : ConD} {by' q1 q2 : Int} (hb : 0 ≤ by' ∧ by' ≤ 255) (hh : 1 ≤ b.houses ∧ b.houses ≤ 6) (hf : 0 ≤ c.frm ∧ c.frm < 6) (ht : 0 ≤ c.to ∧ c.to < 6) (e1 : (c.frm + by').tmod b.houses = q1) (e2 : (c.to + by').tmod b.houses = q2) {ops : Array Oper} (h : regF Try.f10 9 = some ops) :
    AWP Try.prog Try.f10.ntmps none (.region 9 ops true) (cutQ (fun s h => s = (10, .v (ptrV g10)) :: (11, .v (ptrV g11)) :: (7, .v (ptrV g7)) :: (8, .v (ptrV g8)) :: (9, intA i) :: tuS u1 (.v (.int .u8 by')) g3 ∧ h = .cl g11 67 [intA q1, intA q2, intA c.num, intA c.price] :: refB g3 b :: rest))
      ((10, .v (ptrV g10)) :: (11, .v (ptrV g11)) :: (7, .v (ptrV g7)) :: (8, .v (ptrV g8)) :: (9, intA i) :: tuS u1 (.v (.int .u8 by')) g3) (.cl g11 67 [intA c.frm, intA c.to, intA c.num, intA c.price] :: refB g3 b :: rest) := by
  cases h
  refine awp_tree T0 [(0, 0), (2, 0), (3, 0), (5, 0), (6, 1), (8, 0), (10, 0), (11, 0), (13, 0), (14, 1), (1, 2), (4, 0), (7, 0), (9, 2), (12, 0), (15, 0), (16, 0), (17, 2), (18, 0), (19, 3)] (.op 0 0 (.op 2 0 (.op 3 0 (.op 5 0 (.op 6 1 (.op 8 0 (.op 10 0 (.op 11 0 (.op 13 0 (.op 14 1 (.fork 1 (.op 4 0 (.op 7 0 (.op 9 2 (.op 12 0 (.op 15 0 (.op 16 0 (.op 17 2 (.op 18 0 (.op 19 3 .stop))))))))) 9 (.op 12 0 (.op 15 0 (.op 1 2 (.op 4 0 (.op 7 0 (.op 16 0 (.op 17 2 (.op 18 0 (.op 19 3 .stop)))))))))))))))))))) [.cl g3 _ _] rfl (by kernel_rfl) (by solve | repeat' constructor) ?_
  refine awt_po rfl (wt_none rfl) (pv_fa T0 rfl rfl rfl (by simp; rfl)) rfl rfl ?_
  refine awt_po rfl (wt_none rfl) (pv_move rfl rfl) rfl rfl ?_
  refine awt_po rfl (wt_none rfl) (pv_convert rfl rfl Try.underlying5 Try.underlying3 (by first | assumption | exact wr64 (by omega))) rfl rfl ?_
  refine awt_po rfl (wt_none rfl) (pv_fa T0 rfl rfl rfl (by simp; rfl)) rfl rfl ?_
  refine awt_lo rfl (wt_none rfl) (lv_cl1 T0 rfl rfl rfl (by solve | repeat' constructor) (by first | rfl | assumption)) rfl rfl rfl ?_
  refine awt_po rfl (wt_none rfl) (pv_fa T0 rfl rfl rfl (by simp; rfl)) rfl rfl ?_
  refine awt_po rfl (wt_none rfl) (pv_move rfl rfl) rfl rfl ?_
  refine awt_po rfl (wt_none rfl) (pv_convert rfl rfl Try.underlying5 Try.underlying3 (by first | assumption | exact wr64 (by omega))) rfl rfl ?_
  refine awt_po rfl (wt_none rfl) (pv_fa T0 rfl rfl rfl (by simp; rfl)) rfl rfl ?_
  refine awt_lo rfl (wt_none rfl) (lv_cl1 T0 rfl rfl rfl (by solve | repeat' constructor) (by first | rfl | assumption)) rfl rfl rfl ?_
  refine awt_fork ?_ ?_
  · skip
    refine awt_h (hm := []) rfl (wt_none rfl) (by solve | repeat' constructor) rfl (aop_lv (lv_cl1 T0 rfl rfl rfl (by solve | repeat' constructor) rfl) rfl (blt_lt rfl) ?_)
    refine awt_n1 rfl (wt_none rfl) (pv_add rfl rfl rfl (by first | assumption | exact wr64 (by omega))) rfl rfl rfl ?_
    refine awt_n1 rfl (wt_none rfl) (pv_rem rfl rfl rfl (by omega) (by first | assumption | rfl)) rfl rfl rfl ?_
    refine awt_h (hm := []) rfl (wt_none rfl) (by solve | repeat' constructor) rfl (aop_lv (lv_cl1 T0 rfl rfl rfl (by solve | repeat' constructor) rfl) rfl (blt_lt rfl) ?_)
    refine awt_n1 rfl (wt_none rfl) (pv_add rfl rfl rfl (by first | assumption | exact wr64 (by omega))) rfl rfl rfl ?_
    refine awt_n1 rfl (wt_none rfl) (pv_rem rfl rfl rfl (by omega) (by first | assumption | rfl)) rfl rfl rfl ?_
    refine awt_po rfl (wt_none rfl) (pv_fa T0 rfl rfl rfl (by simp; rfl)) rfl rfl ?_
    refine awt_h (hm := _) rfl (wt_none rfl) ?sub rfl (st_store_o T0 rfl rfl rfl rfl rfl (by first | assumption | (simp only [cellsA]; rfl)) rfl rfl rfl (by solve | repeat' constructor) (by solve | repeat' constructor) ?_)
    case sub => exact (by solve | repeat' constructor)
    refine awt_po rfl (wt_none rfl) (pv_fa T0 rfl rfl rfl (by simp; rfl)) rfl rfl ?_
    refine awt_s (md := fun _ => True) rfl (wt_none rfl) (st_store T0 rfl rfl rfl rfl rfl (by first | assumption | (simp only [cellsA]; rfl)) rfl rfl rfl (by solve | repeat' constructor) (by solve | repeat' constructor) trivial ?_)
    refine awe_end ?_
    exact cut_n ⟨rfl, rfl⟩ (by first | ((repeat' (first | exact True.intro | refine ⟨rfl, ?_⟩)); all_goals fail) | fail) (SubH.refl _)
  · skip
    refine awt_h (hm := []) rfl (wt_none rfl) (by solve | repeat' constructor) rfl (aop_lv (lv_cl1 T0 rfl rfl rfl (by solve | repeat' constructor) rfl) rfl (blt_lt rfl) ?_)
    refine awt_n1 rfl (wt_none rfl) (pv_add rfl rfl rfl (by first | assumption | exact wr64 (by omega))) rfl rfl rfl ?_
    refine awt_n1 rfl (wt_none rfl) (pv_rem rfl rfl rfl (by omega) (by first | assumption | rfl)) rfl rfl rfl ?_
    refine awt_h (hm := []) rfl (wt_none rfl) (by solve | repeat' constructor) rfl (aop_lv (lv_cl1 T0 rfl rfl rfl (by solve | repeat' constructor) rfl) rfl (blt_lt rfl) ?_)
    refine awt_n1 rfl (wt_none rfl) (pv_add rfl rfl rfl (by first | assumption | exact wr64 (by omega))) rfl rfl rfl ?_
    refine awt_n1 rfl (wt_none rfl) (pv_rem rfl rfl rfl (by omega) (by first | assumption | rfl)) rfl rfl rfl ?_
    refine awt_po rfl (wt_none rfl) (pv_fa T0 rfl rfl rfl (by simp; rfl)) rfl rfl ?_
    refine awt_h (hm := _) rfl (wt_none rfl) ?sub rfl (st_store_o T0 rfl rfl rfl rfl rfl (by first | assumption | (simp only [cellsA]; rfl)) rfl rfl rfl (by solve | repeat' constructor) (by solve | repeat' constructor) ?_)
    case sub => exact (by solve | repeat' constructor)
    refine awt_po rfl (wt_none rfl) (pv_fa T0 rfl rfl rfl (by simp; rfl)) rfl rfl ?_
    refine awt_s (md := fun _ => True) rfl (wt_none rfl) (st_store T0 rfl rfl rfl rfl rfl (by first | assumption | (simp only [cellsA]; rfl)) rfl rfl rfl (by solve | repeat' constructor) (by solve | repeat' constructor) trivial ?_)
    refine awe_end ?_
    exact cut_n ⟨rfl, rfl⟩ (by first | ((repeat' (first | exact True.intro | refine ⟨rfl, ?_⟩)); all_goals fail) | fail) (SubH.refl _)
theorem tu_10 {a a' : Option Addr} {c c' : Nat} {cx cy : ConD} {r1 r2 : List (List AV)} (hi : i ≤ 1000) (h1 : r1.length = i) (h2 : r2.length = i) {ops : Array Oper} (h : regF Try.f10 10 = some ops) :
    AWP Try.prog Try.f10.ntmps none (.region 10 ops true) (cutQ (fun s h => ∃ b1 d1 b2 d2, s = (7, .v (ptrV g7)) :: (8, .v (ptrV g8)) :: (9, intA i) :: tuS u1 u2 g3 ∧
      h = [refB g3 b, .cl g7 24 [intA b.houses, .v (.slice b1 (i + 1) d1)], .cl g8 24 [intA b.houses, .v (.slice b2 (i + 1) d2)], .rw (.slice b1 (i + 1) d1) 67 4 (r1 ++ [conRow cx]), .rw (.slice b2 (i + 1) d2) 67 4 (r2 ++ [conRow cy])]))
      ((10, .v (ptrV g10)) :: (11, .v (ptrV g11)) :: (7, .v (ptrV g7)) :: (8, .v (ptrV g8)) :: (9, intA i) :: tuS u1 u2 g3)
      [refB g3 b, .cl g7 24 [intA b.houses, .v (.slice a i c)], .cl g8 24 [intA b.houses, .v (.slice a' i c')], .cl g10 67 [intA cx.frm, intA cx.to, intA cx.num, intA cx.price], .cl g11 67 [intA cy.frm, intA cy.to, intA cy.num, intA cy.price], .rw (.slice a i c) 67 4 r1, .rw (.slice a' i c') 67 4 r2] := by
  cases h
  refine awp_tree T0 [(0, 0), (1, 1), (2, 1), (5, 0), (6, 1), (7, 1), (3, 2), (4, 2), (10, 0), (8, 2), (9, 3), (11, 3), (12, 0), (13, 3)] (.op 0 0 (.op 1 1 (.op 2 1 (.op 5 0 (.op 6 1 (.op 7 1 (.fork 3 (.fork 4 (.op 10 0 (.op 8 2 (.op 9 3 (.op 11 3 (.op 12 0 (.op 13 3 .stop)))))) 8 (.op 4 2 (.op 10 0 (.op 9 3 (.op 11 3 (.op 12 0 (.op 13 3 .stop))))))) 8 (.op 3 2 (.op 4 2 (.op 10 0 (.op 9 3 (.op 11 3 (.op 12 0 (.op 13 3 .stop)))))))))))))) [.cl g7 _ _, .cl g8 _ _, .cl g10 _ _, .cl g11 _ _] rfl (by kernel_rfl) (by solve | repeat' constructor) ?_
  refine awt_po rfl (wt_none rfl) (pv_fa T0 rfl rfl rfl (by simp; rfl)) rfl rfl ?_
  refine awt_lo rfl (wt_none rfl) (lv_cl1 T0 rfl rfl rfl (by solve | repeat' constructor) (by first | rfl | assumption)) rfl rfl rfl ?_
  refine awt_lo rfl (wt_none rfl) (lv_cla T0 rfl rfl rfl (by solve | repeat' constructor) rfl) rfl rfl rfl ?_
  refine awt_po rfl (wt_none rfl) (pv_fa T0 rfl rfl rfl (by simp; rfl)) rfl rfl ?_
  refine awt_lo rfl (wt_none rfl) (lv_cl1 T0 rfl rfl rfl (by solve | repeat' constructor) (by first | rfl | assumption)) rfl rfl rfl ?_
  refine awt_lo rfl (wt_none rfl) (lv_cla T0 rfl rfl rfl (by solve | repeat' constructor) rfl) rfl rfl rfl ?_
  refine awt_fork ?_ ?_
  · skip
    refine awt_h (hm := []) rfl (wt_none rfl) (by solve | repeat' constructor) rfl (st_bsl T0 rfl rfl rfl rfl rfl (by solve | repeat' constructor) rfl rfl rfl rfl (by simp only [List.map_cons, List.map_nil, cellsA]; rfl) ?_)
    intro g94
    refine awt_fork ?_ ?_
    · skip
      refine awt_h (hm := _) rfl (wt_none rfl) ?sub rfl (st_app_o T0 rfl rfl rfl rfl rfl rfl rfl rfl rfl (by solve | repeat' constructor) (by solve | repeat' constructor) rfl rfl h1 (by omega) ?_)
      case sub => exact (by solve | repeat' constructor)
      intro a95 c95 p95
      refine awt_po rfl (wt_none rfl) (pv_fa T0 rfl rfl rfl (by simp; rfl)) rfl rfl ?_
      refine awt_h (hm := []) rfl (wt_none rfl) (by solve | repeat' constructor) rfl (st_bsl T0 rfl rfl rfl rfl rfl (by solve | repeat' constructor) rfl rfl rfl rfl (by simp only [List.map_cons, List.map_nil, cellsA]; rfl) ?_)
      intro g99
      refine awt_s (md := fun _ => True) rfl (wt_none rfl) (st_app T0 rfl rfl rfl rfl rfl rfl rfl rfl rfl (by solve | repeat' constructor) (by solve | repeat' constructor) rfl rfl h2 (by omega) (fun _ _ => trivial) ?_)
      intro a100 c100 p100
      refine awe_s (md := fun _ => True) rfl (wt_none rfl) (st_store T0 rfl rfl rfl rfl rfl (by first | assumption | (simp only [cellsA]; rfl)) rfl rfl rfl (by solve | repeat' constructor) (by solve | repeat' constructor) trivial ?_)
      first
        | refine awe_p rfl (wt_none rfl) (pv_fa T0 rfl rfl rfl (by simp; rfl)) rfl rfl ?_
        | refine awe_p rfl (wt_none rfl) (pv_fa_elt T0 rfl rfl rfl (by simp; rfl)) rfl rfl ?_
        | refine awe_p rfl (wt_none rfl) (pv_fa_rp T0 rfl rfl rfl (by simp; rfl)) rfl rfl ?_
      refine awe_s (md := fun _ => True) rfl (wt_none rfl) (st_store T0 rfl rfl rfl rfl rfl (by first | assumption | (simp only [cellsA]; rfl)) rfl rfl rfl (by solve | repeat' constructor) (by solve | repeat' constructor) trivial ?_)
      refine awe_end ?_
      exact cut_n ⟨_, _, _, _, rfl, rfl⟩ (by first | ((repeat' (first | exact True.intro | refine ⟨rfl, ?_⟩)); all_goals fail) | fail) (by solve | repeat' constructor)
    · skip
      refine awt_h (hm := []) rfl (wt_none rfl) (by solve | repeat' constructor) rfl (st_bsl T0 rfl rfl rfl rfl rfl (by solve | repeat' constructor) rfl rfl rfl rfl (by simp only [List.map_cons, List.map_nil, cellsA]; rfl) ?_)
      intro g99
      refine awt_h (hm := _) rfl (wt_none rfl) ?sub rfl (st_app_o T0 rfl rfl rfl rfl rfl rfl rfl rfl rfl (by solve | repeat' constructor) (by solve | repeat' constructor) rfl rfl h1 (by omega) ?_)
      case sub => exact (by solve | repeat' constructor)
      intro a95 c95 p95
      refine awt_po rfl (wt_none rfl) (pv_fa T0 rfl rfl rfl (by simp; rfl)) rfl rfl ?_
      refine awt_s (md := fun _ => True) rfl (wt_none rfl) (st_app T0 rfl rfl rfl rfl rfl rfl rfl rfl rfl (by solve | repeat' constructor) (by solve | repeat' constructor) rfl rfl h2 (by omega) (fun _ _ => trivial) ?_)
      intro a100 c100 p100
      refine awe_s (md := fun _ => True) rfl (wt_none rfl) (st_store T0 rfl rfl rfl rfl rfl (by first | assumption | (simp only [cellsA]; rfl)) rfl rfl rfl (by solve | repeat' constructor) (by solve | repeat' constructor) trivial ?_)
      first
        | refine awe_p rfl (wt_none rfl) (pv_fa T0 rfl rfl rfl (by simp; rfl)) rfl rfl ?_
        | refine awe_p rfl (wt_none rfl) (pv_fa_elt T0 rfl rfl rfl (by simp; rfl)) rfl rfl ?_
        | refine awe_p rfl (wt_none rfl) (pv_fa_rp T0 rfl rfl rfl (by simp; rfl)) rfl rfl ?_
      refine awe_s (md := fun _ => True) rfl (wt_none rfl) (st_store T0 rfl rfl rfl rfl rfl (by first | assumption | (simp only [cellsA]; rfl)) rfl rfl rfl (by solve | repeat' constructor) (by solve | repeat' constructor) trivial ?_)
      refine awe_end ?_
      exact cut_n ⟨_, _, _, _, rfl, rfl⟩ (by first | ((repeat' (first | exact True.intro | refine ⟨rfl, ?_⟩)); all_goals fail) | fail) (by solve | repeat' constructor)
  · skip
    refine awt_h (hm := []) rfl (wt_none rfl) (by solve | repeat' constructor) rfl (st_bsl T0 rfl rfl rfl rfl rfl (by solve | repeat' constructor) rfl rfl rfl rfl (by simp only [List.map_cons, List.map_nil, cellsA]; rfl) ?_)
    intro g99
    refine awt_h (hm := []) rfl (wt_none rfl) (by solve | repeat' constructor) rfl (st_bsl T0 rfl rfl rfl rfl rfl (by solve | repeat' constructor) rfl rfl rfl rfl (by simp only [List.map_cons, List.map_nil, cellsA]; rfl) ?_)
    intro g94
    refine awt_h (hm := _) rfl (wt_none rfl) ?sub rfl (st_app_o T0 rfl rfl rfl rfl rfl rfl rfl rfl rfl (by solve | repeat' constructor) (by solve | repeat' constructor) rfl rfl h1 (by omega) ?_)
    case sub => exact (by solve | repeat' constructor)
    intro a95 c95 p95
    refine awt_po rfl (wt_none rfl) (pv_fa T0 rfl rfl rfl (by simp; rfl)) rfl rfl ?_
    refine awt_s (md := fun _ => True) rfl (wt_none rfl) (st_app T0 rfl rfl rfl rfl rfl rfl rfl rfl rfl (by solve | repeat' constructor) (by solve | repeat' constructor) rfl rfl h2 (by omega) (fun _ _ => trivial) ?_)
    intro a100 c100 p100
    refine awe_s (md := fun _ => True) rfl (wt_none rfl) (st_store T0 rfl rfl rfl rfl rfl (by first | assumption | (simp only [cellsA]; rfl)) rfl rfl rfl (by solve | repeat' constructor) (by solve | repeat' constructor) trivial ?_)
    first
      | refine awe_p rfl (wt_none rfl) (pv_fa T0 rfl rfl rfl (by simp; rfl)) rfl rfl ?_
      | refine awe_p rfl (wt_none rfl) (pv_fa_elt T0 rfl rfl rfl (by simp; rfl)) rfl rfl ?_
      | refine awe_p rfl (wt_none rfl) (pv_fa_rp T0 rfl rfl rfl (by simp; rfl)) rfl rfl ?_
    refine awe_s (md := fun _ => True) rfl (wt_none rfl) (st_store T0 rfl rfl rfl rfl rfl (by first | assumption | (simp only [cellsA]; rfl)) rfl rfl rfl (by solve | repeat' constructor) (by solve | repeat' constructor) trivial ?_)
    refine awe_end ?_
    exact cut_n ⟨_, _, _, _, rfl, rfl⟩ (by first | ((repeat' (first | exact True.intro | refine ⟨rfl, ?_⟩)); all_goals fail) | fail) (by solve | repeat' constructor)
theorem tu_27 {C D V W : List Int} {j : Nat} {u13 u16 u19 u22 u25 u28 : AV} (h1 : j < C.length) (h2 : j < D.length) (h3 : j < V.length) (h4 : j < W.length) (l1 : C.length ≤ 1000) (l2 : D.length ≤ 1000) (l3 : V.length ≤ 1000) (l4 : W.length ≤ 1000)
    (b2 : -1000000000 ≤ D.getD j 0 ∧ D.getD j 0 ≤ 1000000000) (b4 : -1000000000 ≤ W.getD j 0 ∧ W.getD j 0 ≤ 1000000000)
    (e1 : decide (C.getD j 0 ≠ 0 - D.getD j 0) = false) (e2 : decide (V.getD j 0 ≠ 0 - W.getD j 0) = false) {ops : Array Oper} (h : regF Try.f10 27 = some ops) :
    AWP Try.prog Try.f10.ntmps none (.region 27 ops true) (cutQ (fun s h => s = [(268, boolA false), (3, .v (ptrV g3)), (13, u13), (16, u16), (19, u19), (22, u22), (25, u25), (28, u28), (31, .t (intsT true C)), (33, .t (intsT true D)), (35, .t (intsT true V)), (37, .t (intsT true W)), (39, intA j)] ∧ h = [refB g3 b]))
      [(3, .v (ptrV g3)), (13, u13), (16, u16), (19, u19), (22, u22), (25, u25), (28, u28), (31, .t (intsT true C)), (33, .t (intsT true D)), (35, .t (intsT true V)), (37, .t (intsT true W)), (39, intA j)] [refB g3 b] := by
  cases h
  refine awp_treeN T0 [(0, 0), (1, 0), (2, 0), (3, 1), (4, 0), (5, 0), (6, 0), (7, 1), (8, 0), (9, 0), (10, 0), (11, 0), (12, 0), (13, 0), (14, 1), (15, 0), (16, 0), (17, 0), (18, 1), (19, 0), (20, 0), (21, 0)] (.op 0 0 (.op 1 0 (.op 2 0 (.op 3 1 (.op 4 0 (.op 5 0 (.op 6 0 (.op 7 1 (.op 8 0 (.op 9 0 (.op 10 0 (.op 11 0 (.op 12 0 (.op 13 0 (.op 14 1 (.op 15 0 (.op 16 0 (.op 17 0 (.op 18 1 (.op 19 0 (.op 20 0 (.op 21 0 .stop)))))))))))))))))))))) _ rfl (by kernel_rfl) (SubH.refl _) ?_
  refine awt_po rfl (wt_none rfl) (pv_move rfl rfl) rfl rfl ?_
  refine awt_po rfl (wt_none rfl) (pv_move rfl rfl) rfl rfl ?_
  refine awt_po rfl (wt_none rfl) (pv_ix_t T0 rfl rfl rfl rfl (by omega) (by first | exact (rfl : Int.toNat 0 = 0) | exact Int.toNat_natCast _ | rfl)) rfl rfl ?_
  refine awt_lo rfl (wt_none rfl) (lv_elt_sc T0 rfl rfl rfl rfl) rfl rfl rfl ?_
  refine awt_po rfl (wt_none rfl) (pv_move rfl rfl) rfl rfl ?_
  refine awt_po rfl (wt_none rfl) (pv_move rfl rfl) rfl rfl ?_
  refine awt_po rfl (wt_none rfl) (pv_ix_t T0 rfl rfl rfl rfl (by omega) (by first | exact (rfl : Int.toNat 0 = 0) | exact Int.toNat_natCast _ | rfl)) rfl rfl ?_
  refine awt_lo rfl (wt_none rfl) (lv_elt_sc T0 rfl rfl rfl rfl) rfl rfl rfl ?_
  refine awt_po rfl (wt_none rfl) (pv_neg rfl rfl (wr64 (by omega))) rfl rfl ?_
  refine awt_po rfl (wt_none rfl) (pv_neq rfl rfl rfl) rfl rfl ?_
  refine awt_po rfl (wt_none rfl) (pv_move rfl rfl) rfl rfl ?_
  refine awt_po rfl (wt_some' rfl rfl rfl rfl (by first | rfl | assumption | exact dT (by omega) | exact dF (by omega))) (pv_move rfl rfl) rfl rfl ?_
  refine awt_po rfl (wt_some' rfl rfl rfl rfl (by first | rfl | assumption | exact dT (by omega) | exact dF (by omega))) (pv_move rfl rfl) rfl rfl ?_
  refine awt_po rfl (wt_some' rfl rfl rfl rfl (by first | rfl | assumption | exact dT (by omega) | exact dF (by omega))) (pv_ix_t T0 rfl rfl rfl rfl (by omega) (by first | exact (rfl : Int.toNat 0 = 0) | exact Int.toNat_natCast _ | rfl)) rfl rfl ?_
  refine awt_lo rfl (wt_some' rfl rfl rfl rfl (by first | rfl | assumption | exact dT (by omega) | exact dF (by omega))) (lv_elt_sc T0 rfl rfl rfl rfl) rfl rfl rfl ?_
  refine awt_po rfl (wt_some' rfl rfl rfl rfl (by first | rfl | assumption | exact dT (by omega) | exact dF (by omega))) (pv_move rfl rfl) rfl rfl ?_
  refine awt_po rfl (wt_some' rfl rfl rfl rfl (by first | rfl | assumption | exact dT (by omega) | exact dF (by omega))) (pv_move rfl rfl) rfl rfl ?_
  refine awt_po rfl (wt_some' rfl rfl rfl rfl (by first | rfl | assumption | exact dT (by omega) | exact dF (by omega))) (pv_ix_t T0 rfl rfl rfl rfl (by omega) (by first | exact (rfl : Int.toNat 0 = 0) | exact Int.toNat_natCast _ | rfl)) rfl rfl ?_
  refine awt_lo rfl (wt_some' rfl rfl rfl rfl (by first | rfl | assumption | exact dT (by omega) | exact dF (by omega))) (lv_elt_sc T0 rfl rfl rfl rfl) rfl rfl rfl ?_
  refine awt_po rfl (wt_some' rfl rfl rfl rfl (by first | rfl | assumption | exact dT (by omega) | exact dF (by omega))) (pv_neg rfl rfl (wr64 (by omega))) rfl rfl ?_
  refine awt_po rfl (wt_some' rfl rfl rfl rfl (by first | rfl | assumption | exact dT (by omega) | exact dF (by omega))) (pv_neq rfl rfl rfl) rfl rfl ?_
  refine awt_po rfl (wt_none rfl) (pv_pick_f rfl rfl (by first | rfl | assumption | exact dT (by omega) | exact dF (by omega)) rfl) rfl rfl ?_
  refine awt_end ?_
  simp only [e2]
  exact cut_n ⟨rfl, rfl⟩ (by first | ((repeat' (first | exact True.intro | refine ⟨rfl, ?_⟩)); all_goals fail) | fail) (by solve | repeat' constructor)
theorem tu_22 {C D V W : List Int} {u13 u16 u19 u22 u25 u28 : AV} (q1 : decide ((C.length : Int) ≠ b.houses) = false) (q2 : decide ((D.length : Int) ≠ b.houses) = false) (q3 : decide ((V.length : Int) ≠ b.houses) = false) (q4 : decide ((W.length : Int) ≠ b.houses) = false) {ops : Array Oper} (h : regF Try.f10 22 = some ops) :
    AWP Try.prog Try.f10.ntmps none (.region 22 ops false) (cutQ (fun s h => s = [(240, boolA false), (3, .v (ptrV g3)), (13, u13), (16, u16), (19, u19), (22, u22), (25, u25), (28, u28), (31, .t (intsT true C)), (33, .t (intsT true D)), (35, .t (intsT true V)), (37, .t (intsT true W))] ∧ h = [refB g3 b]))
      [(3, .v (ptrV g3)), (13, u13), (16, u16), (19, u19), (22, u22), (25, u25), (28, u28), (31, .t (intsT true C)), (33, .t (intsT true D)), (35, .t (intsT true V)), (37, .t (intsT true W)), (15, intA 0), (18, intA 0), (21, intA 0), (24, intA 0), (27, intA 0), (30, intA 0), (32, intA 0), (34, intA 0), (36, intA 0), (38, intA 0)] [refB g3 b] := by
  cases h
  repeat (first | refine awp_region_lit rfl ?_ | ((first | (show AWL _ _ _ (⟨_, .move _, _, _, _, _⟩ :: _) _ _ _; refine awl_pw ?wtq (pv_move rfl rfl) rfl rfl ?_) | (show AWL _ _ _ (⟨_, .load _ _, _, _, _, _⟩ :: _) _ _ _; refine awl_lw ?wtq (lv_cl1 T0 rfl rfl rfl (by solve | repeat' constructor) (by first | rfl | assumption)) rfl rfl rfl ?_) | (show AWL _ _ _ (⟨_, .fieldAddr _ _ _, _, _, _, _⟩ :: _) _ _ _; refine awl_pw ?wtq (pv_fa T0 rfl rfl rfl (by simp; rfl)) rfl rfl ?_) | (show AWL _ _ _ (⟨_, .binOp .neq _ _ _ _, _, _, _, _⟩ :: _) _ _ _; refine awl_pw ?wtq (pv_neq rfl rfl rfl) rfl rfl ?_) | (show AWL _ _ _ (⟨_, .call ⟨.builtin .len, _, _⟩, _, _, _, _⟩ :: _) _ _ _; refine awl_pw ?wtq (pv_len_t T0 rfl rfl rfl) rfl rfl ?_) | (show AWL _ _ _ (⟨_, .pick _ _ _, _, _, _, _⟩ :: _) _ _ _; refine awl_pw ?wtq (pv_pick_f rfl rfl (by first | rfl | assumption | exact dT (by omega) | exact dF (by omega)) rfl) rfl rfl ?_)); case wtq => first | exact wt_none rfl | exact wt_some' rfl rfl rfl rfl (by first | rfl | assumption | exact dT (by omega) | exact dF (by omega))) | refine awl_nil ?_)
  rw [q4]
  exact cut_n ⟨rfl, rfl⟩ (by first | ((repeat' (first | exact True.intro | refine ⟨rfl, ?_⟩)); all_goals fail) | fail) (by solve | repeat' constructor)
theorem tu_12 {hs pp : Int} {cp : Bool} {cs : List ConD} {bk : AV} {x y : Ent} {L : List Int} {Q : List Int → List Int → Prop} (hb : PCall Try.prog 19 [.ag [intA hs, .t (consT cp cs)]] (fun r => r = bk)) (hc : PCall Try.prog 30 [bk] (fun r => ∃ S L, Q S L ∧ r = .tup [.t (intsT true S), .t (intsT true L), intA 0])) {ops : Array Oper} (h : regF Try.f10 12 = some ops) :
    AWP Try.prog Try.f10.ntmps none (.region 12 ops false) (cutQ (fun s h => ∃ S L, Q S L ∧ s = (13, .t (intsT true S)) :: (15, intA 0) :: [(12, intA pp), (3, .v (ptrV g3)), (7, .v (ptrV g7)), (8, .v (ptrV g8))] ∧ h = [.cl g3 24 [intA hs, .t (consT cp cs)], x, y])) [(12, intA pp), (3, .v (ptrV g3)), (7, .v (ptrV g7)), (8, .v (ptrV g8))] [.cl g3 24 [intA hs, .t (consT cp cs)], x, y] := by
  cases h
  repeat (first | refine awp_region_lit rfl ?_ | ((first | (show AWL _ _ _ (⟨_, .load _ _, _, _, _, _⟩ :: _) _ _ _; refine awl_lw ?wtq (lv_cla T0 rfl rfl rfl (by solve | repeat' constructor) rfl) rfl rfl rfl ?_)); case wtq => first | exact wt_none rfl | exact wt_some' rfl rfl rfl rfl (by first | rfl | assumption | exact dT (by omega) | exact dF (by omega))))
  refine awl_hw (by first | exact wt_none rfl | exact wt_some' rfl rfl rfl rfl (by first | rfl | assumption | exact dT (by omega) | exact dF (by omega))) (st_call T0 (hb) rfl rfl rfl rfl (by first | exact callee_lit | exact callee_v | exact callee_fn | assumption) (by solve | repeat' constructor) (by first | rfl | assumption) rfl ?_)
  rintro _ rfl
  skip
  refine awl_hw (by first | exact wt_none rfl | exact wt_some' rfl rfl rfl rfl (by first | rfl | assumption | exact dT (by omega) | exact dF (by omega))) (st_call T0 (hc) rfl rfl rfl rfl (by first | exact callee_lit | exact callee_v | exact callee_fn | assumption) (by solve | repeat' constructor) (by first | rfl | assumption) rfl ?_)
  rintro _ ⟨S, L, hQ, rfl⟩
  repeat (first | ((first | (show AWL _ _ _ (⟨_, .move _, _, _, _, _⟩ :: _) _ _ _; refine awl_pw ?wtq (pv_move rfl rfl) rfl rfl ?_) | (show AWL _ _ _ (⟨_, .assign _, _, _, _, _⟩ :: _) _ _ _; refine awl_pw ?wtq (pv_assign rfl rfl) rfl rfl ?_) | (show AWL _ _ _ (⟨_, .extract _ _, _, _, _, _⟩ :: _) _ _ _; refine awl_pw ?wtq (pv_extract rfl rfl rfl) rfl rfl ?_)); case wtq => first | exact wt_none rfl | exact wt_some' rfl rfl rfl rfl (by first | rfl | assumption | exact dT (by omega) | exact dF (by omega))) | refine awl_nil ?_)
  exact cut_n ⟨S, L, hQ, rfl, rfl⟩ (by first | ((repeat' (first | exact True.intro | refine ⟨rfl, ?_⟩)); all_goals fail) | fail) (by solve | repeat' constructor)
theorem tu_13 {hs pp : Int} {cp : Bool} {cs : List ConD} {bk : AV} {x y : Ent} {L : List Int} {Q : List Int → List Int → Prop} {u13 u15 : AV} (hb : PCall Try.prog 19 [.ag [intA hs, .t (consT cp cs)]] (fun r => r = bk)) (hc : PCall Try.prog 30 [bk] (fun r => ∃ S L, Q S L ∧ r = .tup [.t (intsT true S), .t (intsT true L), intA 0])) {ops : Array Oper} (h : regF Try.f10 13 = some ops) :
    AWP Try.prog Try.f10.ntmps none (.region 13 ops false) (cutQ (fun s h => ∃ S L, Q S L ∧ s = (16, .t (intsT true S)) :: (18, intA 0) :: [(12, intA pp), (3, .v (ptrV g3)), (7, .v (ptrV g7)), (8, .v (ptrV g8)), (13, u13), (15, u15)] ∧ h = [x, .cl g7 24 [intA hs, .t (consT cp cs)], y])) [(12, intA pp), (3, .v (ptrV g3)), (7, .v (ptrV g7)), (8, .v (ptrV g8)), (13, u13), (15, u15)] [x, .cl g7 24 [intA hs, .t (consT cp cs)], y] := by
  cases h
  repeat (first | refine awp_region_lit rfl ?_ | ((first | (show AWL _ _ _ (⟨_, .load _ _, _, _, _, _⟩ :: _) _ _ _; refine awl_lw ?wtq (lv_cla T0 rfl rfl rfl (by solve | repeat' constructor) rfl) rfl rfl rfl ?_)); case wtq => first | exact wt_none rfl | exact wt_some' rfl rfl rfl rfl (by first | rfl | assumption | exact dT (by omega) | exact dF (by omega))))
  refine awl_hw (by first | exact wt_none rfl | exact wt_some' rfl rfl rfl rfl (by first | rfl | assumption | exact dT (by omega) | exact dF (by omega))) (st_call T0 (hb) rfl rfl rfl rfl (by first | exact callee_lit | exact callee_v | exact callee_fn | assumption) (by solve | repeat' constructor) (by first | rfl | assumption) rfl ?_)
  rintro _ rfl
  skip
  refine awl_hw (by first | exact wt_none rfl | exact wt_some' rfl rfl rfl rfl (by first | rfl | assumption | exact dT (by omega) | exact dF (by omega))) (st_call T0 (hc) rfl rfl rfl rfl (by first | exact callee_lit | exact callee_v | exact callee_fn | assumption) (by solve | repeat' constructor) (by first | rfl | assumption) rfl ?_)
  rintro _ ⟨S, L, hQ, rfl⟩
  repeat (first | ((first | (show AWL _ _ _ (⟨_, .move _, _, _, _, _⟩ :: _) _ _ _; refine awl_pw ?wtq (pv_move rfl rfl) rfl rfl ?_) | (show AWL _ _ _ (⟨_, .assign _, _, _, _, _⟩ :: _) _ _ _; refine awl_pw ?wtq (pv_assign rfl rfl) rfl rfl ?_) | (show AWL _ _ _ (⟨_, .extract _ _, _, _, _, _⟩ :: _) _ _ _; refine awl_pw ?wtq (pv_extract rfl rfl rfl) rfl rfl ?_)); case wtq => first | exact wt_none rfl | exact wt_some' rfl rfl rfl rfl (by first | rfl | assumption | exact dT (by omega) | exact dF (by omega))) | refine awl_nil ?_)
  exact cut_n ⟨S, L, hQ, rfl, rfl⟩ (by first | ((repeat' (first | exact True.intro | refine ⟨rfl, ?_⟩)); all_goals fail) | fail) (by solve | repeat' constructor)
theorem tu_14 {hs pp : Int} {cp : Bool} {cs : List ConD} {bk : AV} {x y : Ent} {L : List Int} {Q : List Int → List Int → Prop} {u13 u15 u16 u18 : AV} (hb : PCall Try.prog 19 [.ag [intA hs, .t (consT cp cs)]] (fun r => r = bk)) (hc : PCall Try.prog 30 [bk] (fun r => ∃ S L, Q S L ∧ r = .tup [.t (intsT true S), .t (intsT true L), intA 0])) {ops : Array Oper} (h : regF Try.f10 14 = some ops) :
    AWP Try.prog Try.f10.ntmps none (.region 14 ops false) (cutQ (fun s h => ∃ S L, Q S L ∧ s = (19, .t (intsT true S)) :: (21, intA 0) :: [(12, intA pp), (3, .v (ptrV g3)), (7, .v (ptrV g7)), (8, .v (ptrV g8)), (13, u13), (15, u15), (16, u16), (18, u18)] ∧ h = [x, y, .cl g8 24 [intA hs, .t (consT cp cs)]])) [(12, intA pp), (3, .v (ptrV g3)), (7, .v (ptrV g7)), (8, .v (ptrV g8)), (13, u13), (15, u15), (16, u16), (18, u18)] [x, y, .cl g8 24 [intA hs, .t (consT cp cs)]] := by
  cases h
  repeat (first | refine awp_region_lit rfl ?_ | ((first | (show AWL _ _ _ (⟨_, .load _ _, _, _, _, _⟩ :: _) _ _ _; refine awl_lw ?wtq (lv_cla T0 rfl rfl rfl (by solve | repeat' constructor) rfl) rfl rfl rfl ?_)); case wtq => first | exact wt_none rfl | exact wt_some' rfl rfl rfl rfl (by first | rfl | assumption | exact dT (by omega) | exact dF (by omega))))
  refine awl_hw (by first | exact wt_none rfl | exact wt_some' rfl rfl rfl rfl (by first | rfl | assumption | exact dT (by omega) | exact dF (by omega))) (st_call T0 (hb) rfl rfl rfl rfl (by first | exact callee_lit | exact callee_v | exact callee_fn | assumption) (by solve | repeat' constructor) (by first | rfl | assumption) rfl ?_)
  rintro _ rfl
  skip
  refine awl_hw (by first | exact wt_none rfl | exact wt_some' rfl rfl rfl rfl (by first | rfl | assumption | exact dT (by omega) | exact dF (by omega))) (st_call T0 (hc) rfl rfl rfl rfl (by first | exact callee_lit | exact callee_v | exact callee_fn | assumption) (by solve | repeat' constructor) (by first | rfl | assumption) rfl ?_)
  rintro _ ⟨S, L, hQ, rfl⟩
  repeat (first | ((first | (show AWL _ _ _ (⟨_, .move _, _, _, _, _⟩ :: _) _ _ _; refine awl_pw ?wtq (pv_move rfl rfl) rfl rfl ?_) | (show AWL _ _ _ (⟨_, .assign _, _, _, _, _⟩ :: _) _ _ _; refine awl_pw ?wtq (pv_assign rfl rfl) rfl rfl ?_) | (show AWL _ _ _ (⟨_, .extract _ _, _, _, _, _⟩ :: _) _ _ _; refine awl_pw ?wtq (pv_extract rfl rfl rfl) rfl rfl ?_)); case wtq => first | exact wt_none rfl | exact wt_some' rfl rfl rfl rfl (by first | rfl | assumption | exact dT (by omega) | exact dF (by omega))) | refine awl_nil ?_)
  exact cut_n ⟨S, L, hQ, rfl, rfl⟩ (by first | ((repeat' (first | exact True.intro | refine ⟨rfl, ?_⟩)); all_goals fail) | fail) (by solve | repeat' constructor)
theorem tu_15 {hs pp : Int} {cp : Bool} {cs : List ConD} {bk : AV} {x y : Ent} {L : List Int} {Q : List Int → List Int → Prop} {u13 u15 u16 u18 u19 u21 : AV} (hb : PCall Try.prog 19 [.ag [intA hs, .t (consT cp cs)]] (fun r => r = bk)) (hc : PCall Try.prog 38 [bk] (fun r => ∃ S L, Q S L ∧ r = .tup [.t (intsT true S), .t (intsT true L), intA 0])) {ops : Array Oper} (h : regF Try.f10 15 = some ops) :
    AWP Try.prog Try.f10.ntmps none (.region 15 ops false) (cutQ (fun s h => ∃ S L, Q S L ∧ s = (22, .t (intsT true S)) :: (24, intA 0) :: [(12, intA pp), (3, .v (ptrV g3)), (7, .v (ptrV g7)), (8, .v (ptrV g8)), (13, u13), (15, u15), (16, u16), (18, u18), (19, u19), (21, u21)] ∧ h = [.cl g3 24 [intA hs, .t (consT cp cs)], x, y])) [(12, intA pp), (3, .v (ptrV g3)), (7, .v (ptrV g7)), (8, .v (ptrV g8)), (13, u13), (15, u15), (16, u16), (18, u18), (19, u19), (21, u21)] [.cl g3 24 [intA hs, .t (consT cp cs)], x, y] := by
  cases h
  repeat (first | refine awp_region_lit rfl ?_ | ((first | (show AWL _ _ _ (⟨_, .load _ _, _, _, _, _⟩ :: _) _ _ _; refine awl_lw ?wtq (lv_cla T0 rfl rfl rfl (by solve | repeat' constructor) rfl) rfl rfl rfl ?_)); case wtq => first | exact wt_none rfl | exact wt_some' rfl rfl rfl rfl (by first | rfl | assumption | exact dT (by omega) | exact dF (by omega))))
  refine awl_hw (by first | exact wt_none rfl | exact wt_some' rfl rfl rfl rfl (by first | rfl | assumption | exact dT (by omega) | exact dF (by omega))) (st_call T0 (hb) rfl rfl rfl rfl (by first | exact callee_lit | exact callee_v | exact callee_fn | assumption) (by solve | repeat' constructor) (by first | rfl | assumption) rfl ?_)
  rintro _ rfl
  skip
  refine awl_hw (by first | exact wt_none rfl | exact wt_some' rfl rfl rfl rfl (by first | rfl | assumption | exact dT (by omega) | exact dF (by omega))) (st_call T0 (hc) rfl rfl rfl rfl (by first | exact callee_lit | exact callee_v | exact callee_fn | assumption) (by solve | repeat' constructor) (by first | rfl | assumption) rfl ?_)
  rintro _ ⟨S, L, hQ, rfl⟩
  repeat (first | ((first | (show AWL _ _ _ (⟨_, .move _, _, _, _, _⟩ :: _) _ _ _; refine awl_pw ?wtq (pv_move rfl rfl) rfl rfl ?_) | (show AWL _ _ _ (⟨_, .assign _, _, _, _, _⟩ :: _) _ _ _; refine awl_pw ?wtq (pv_assign rfl rfl) rfl rfl ?_) | (show AWL _ _ _ (⟨_, .extract _ _, _, _, _, _⟩ :: _) _ _ _; refine awl_pw ?wtq (pv_extract rfl rfl rfl) rfl rfl ?_)); case wtq => first | exact wt_none rfl | exact wt_some' rfl rfl rfl rfl (by first | rfl | assumption | exact dT (by omega) | exact dF (by omega))) | refine awl_nil ?_)
  exact cut_n ⟨S, L, hQ, rfl, rfl⟩ (by first | ((repeat' (first | exact True.intro | refine ⟨rfl, ?_⟩)); all_goals fail) | fail) (by solve | repeat' constructor)
theorem tu_16 {hs pp : Int} {cp : Bool} {cs : List ConD} {bk : AV} {x y : Ent} {L : List Int} {Q : List Int → List Int → Prop} {u13 u15 u16 u18 u19 u21 u22 u24 : AV} (hb : PCall Try.prog 19 [.ag [intA hs, .t (consT cp cs)]] (fun r => r = bk)) (hc : PCall Try.prog 38 [bk] (fun r => ∃ S L, Q S L ∧ r = .tup [.t (intsT true S), .t (intsT true L), intA 0])) {ops : Array Oper} (h : regF Try.f10 16 = some ops) :
    AWP Try.prog Try.f10.ntmps none (.region 16 ops false) (cutQ (fun s h => ∃ S L, Q S L ∧ s = (25, .t (intsT true S)) :: (27, intA 0) :: [(12, intA pp), (3, .v (ptrV g3)), (7, .v (ptrV g7)), (8, .v (ptrV g8)), (13, u13), (15, u15), (16, u16), (18, u18), (19, u19), (21, u21), (22, u22), (24, u24)] ∧ h = [x, .cl g7 24 [intA hs, .t (consT cp cs)], y])) [(12, intA pp), (3, .v (ptrV g3)), (7, .v (ptrV g7)), (8, .v (ptrV g8)), (13, u13), (15, u15), (16, u16), (18, u18), (19, u19), (21, u21), (22, u22), (24, u24)] [x, .cl g7 24 [intA hs, .t (consT cp cs)], y] := by
  cases h
  repeat (first | refine awp_region_lit rfl ?_ | ((first | (show AWL _ _ _ (⟨_, .load _ _, _, _, _, _⟩ :: _) _ _ _; refine awl_lw ?wtq (lv_cla T0 rfl rfl rfl (by solve | repeat' constructor) rfl) rfl rfl rfl ?_)); case wtq => first | exact wt_none rfl | exact wt_some' rfl rfl rfl rfl (by first | rfl | assumption | exact dT (by omega) | exact dF (by omega))))
  refine awl_hw (by first | exact wt_none rfl | exact wt_some' rfl rfl rfl rfl (by first | rfl | assumption | exact dT (by omega) | exact dF (by omega))) (st_call T0 (hb) rfl rfl rfl rfl (by first | exact callee_lit | exact callee_v | exact callee_fn | assumption) (by solve | repeat' constructor) (by first | rfl | assumption) rfl ?_)
  rintro _ rfl
  skip
  refine awl_hw (by first | exact wt_none rfl | exact wt_some' rfl rfl rfl rfl (by first | rfl | assumption | exact dT (by omega) | exact dF (by omega))) (st_call T0 (hc) rfl rfl rfl rfl (by first | exact callee_lit | exact callee_v | exact callee_fn | assumption) (by solve | repeat' constructor) (by first | rfl | assumption) rfl ?_)
  rintro _ ⟨S, L, hQ, rfl⟩
  repeat (first | ((first | (show AWL _ _ _ (⟨_, .move _, _, _, _, _⟩ :: _) _ _ _; refine awl_pw ?wtq (pv_move rfl rfl) rfl rfl ?_) | (show AWL _ _ _ (⟨_, .assign _, _, _, _, _⟩ :: _) _ _ _; refine awl_pw ?wtq (pv_assign rfl rfl) rfl rfl ?_) | (show AWL _ _ _ (⟨_, .extract _ _, _, _, _, _⟩ :: _) _ _ _; refine awl_pw ?wtq (pv_extract rfl rfl rfl) rfl rfl ?_)); case wtq => first | exact wt_none rfl | exact wt_some' rfl rfl rfl rfl (by first | rfl | assumption | exact dT (by omega) | exact dF (by omega))) | refine awl_nil ?_)
  exact cut_n ⟨S, L, hQ, rfl, rfl⟩ (by first | ((repeat' (first | exact True.intro | refine ⟨rfl, ?_⟩)); all_goals fail) | fail) (by solve | repeat' constructor)
theorem tu_17 {hs pp : Int} {cp : Bool} {cs : List ConD} {bk : AV} {x y : Ent} {L : List Int} {Q : List Int → List Int → Prop} {u13 u15 u16 u18 u19 u21 u22 u24 u25 u27 : AV} (hb : PCall Try.prog 19 [.ag [intA hs, .t (consT cp cs)]] (fun r => r = bk)) (hc : PCall Try.prog 38 [bk] (fun r => ∃ S L, Q S L ∧ r = .tup [.t (intsT true S), .t (intsT true L), intA 0])) {ops : Array Oper} (h : regF Try.f10 17 = some ops) :
    AWP Try.prog Try.f10.ntmps none (.region 17 ops false) (cutQ (fun s h => ∃ S L, Q S L ∧ s = (28, .t (intsT true S)) :: (30, intA 0) :: [(12, intA pp), (3, .v (ptrV g3)), (7, .v (ptrV g7)), (8, .v (ptrV g8)), (13, u13), (15, u15), (16, u16), (18, u18), (19, u19), (21, u21), (22, u22), (24, u24), (25, u25), (27, u27)] ∧ h = [x, y, .cl g8 24 [intA hs, .t (consT cp cs)]])) [(12, intA pp), (3, .v (ptrV g3)), (7, .v (ptrV g7)), (8, .v (ptrV g8)), (13, u13), (15, u15), (16, u16), (18, u18), (19, u19), (21, u21), (22, u22), (24, u24), (25, u25), (27, u27)] [x, y, .cl g8 24 [intA hs, .t (consT cp cs)]] := by
  cases h
  repeat (first | refine awp_region_lit rfl ?_ | ((first | (show AWL _ _ _ (⟨_, .load _ _, _, _, _, _⟩ :: _) _ _ _; refine awl_lw ?wtq (lv_cla T0 rfl rfl rfl (by solve | repeat' constructor) rfl) rfl rfl rfl ?_)); case wtq => first | exact wt_none rfl | exact wt_some' rfl rfl rfl rfl (by first | rfl | assumption | exact dT (by omega) | exact dF (by omega))))
  refine awl_hw (by first | exact wt_none rfl | exact wt_some' rfl rfl rfl rfl (by first | rfl | assumption | exact dT (by omega) | exact dF (by omega))) (st_call T0 (hb) rfl rfl rfl rfl (by first | exact callee_lit | exact callee_v | exact callee_fn | assumption) (by solve | repeat' constructor) (by first | rfl | assumption) rfl ?_)
  rintro _ rfl
  skip
  refine awl_hw (by first | exact wt_none rfl | exact wt_some' rfl rfl rfl rfl (by first | rfl | assumption | exact dT (by omega) | exact dF (by omega))) (st_call T0 (hc) rfl rfl rfl rfl (by first | exact callee_lit | exact callee_v | exact callee_fn | assumption) (by solve | repeat' constructor) (by first | rfl | assumption) rfl ?_)
  rintro _ ⟨S, L, hQ, rfl⟩
  repeat (first | ((first | (show AWL _ _ _ (⟨_, .move _, _, _, _, _⟩ :: _) _ _ _; refine awl_pw ?wtq (pv_move rfl rfl) rfl rfl ?_) | (show AWL _ _ _ (⟨_, .assign _, _, _, _, _⟩ :: _) _ _ _; refine awl_pw ?wtq (pv_assign rfl rfl) rfl rfl ?_) | (show AWL _ _ _ (⟨_, .extract _ _, _, _, _, _⟩ :: _) _ _ _; refine awl_pw ?wtq (pv_extract rfl rfl rfl) rfl rfl ?_)); case wtq => first | exact wt_none rfl | exact wt_some' rfl rfl rfl rfl (by first | rfl | assumption | exact dT (by omega) | exact dF (by omega))) | refine awl_nil ?_)
  exact cut_n ⟨S, L, hQ, rfl, rfl⟩ (by first | ((repeat' (first | exact True.intro | refine ⟨rfl, ?_⟩)); all_goals fail) | fail) (by solve | repeat' constructor)
theorem tu_18 {hs pp : Int} {cp : Bool} {cs : List ConD} {bk : AV} {x y : Ent} {L : List Int} {Q : List Int → List Int → Prop} {u13 u15 u16 u18 u19 u21 u22 u24 u25 u27 u28 u30 : AV} (hb : PCall Try.prog 19 [.ag [intA hs, .t (consT cp cs)]] (fun r => r = bk)) (hc : PCall Try.prog 18 [bk] (fun r => r = .tup [.t (intsT true L), intA 0])) {ops : Array Oper} (h : regF Try.f10 18 = some ops) :
    AWP Try.prog Try.f10.ntmps none (.region 18 ops false) (cutQ (fun s h => s = (31, .t (intsT true L)) :: (32, intA 0) :: [(12, intA pp), (3, .v (ptrV g3)), (7, .v (ptrV g7)), (8, .v (ptrV g8)), (13, u13), (15, u15), (16, u16), (18, u18), (19, u19), (21, u21), (22, u22), (24, u24), (25, u25), (27, u27), (28, u28), (30, u30)] ∧ h = [.cl g3 24 [intA hs, .t (consT cp cs)], x, y])) [(12, intA pp), (3, .v (ptrV g3)), (7, .v (ptrV g7)), (8, .v (ptrV g8)), (13, u13), (15, u15), (16, u16), (18, u18), (19, u19), (21, u21), (22, u22), (24, u24), (25, u25), (27, u27), (28, u28), (30, u30)] [.cl g3 24 [intA hs, .t (consT cp cs)], x, y] := by
  cases h
  repeat (first | refine awp_region_lit rfl ?_ | ((first | (show AWL _ _ _ (⟨_, .load _ _, _, _, _, _⟩ :: _) _ _ _; refine awl_lw ?wtq (lv_cla T0 rfl rfl rfl (by solve | repeat' constructor) rfl) rfl rfl rfl ?_)); case wtq => first | exact wt_none rfl | exact wt_some' rfl rfl rfl rfl (by first | rfl | assumption | exact dT (by omega) | exact dF (by omega))))
  refine awl_hw (by first | exact wt_none rfl | exact wt_some' rfl rfl rfl rfl (by first | rfl | assumption | exact dT (by omega) | exact dF (by omega))) (st_call T0 (hb) rfl rfl rfl rfl (by first | exact callee_lit | exact callee_v | exact callee_fn | assumption) (by solve | repeat' constructor) (by first | rfl | assumption) rfl ?_)
  rintro _ rfl
  skip
  refine awl_hw (by first | exact wt_none rfl | exact wt_some' rfl rfl rfl rfl (by first | rfl | assumption | exact dT (by omega) | exact dF (by omega))) (st_call T0 (hc) rfl rfl rfl rfl (by first | exact callee_lit | exact callee_v | exact callee_fn | assumption) (by solve | repeat' constructor) (by first | rfl | assumption) rfl ?_)
  rintro _ rfl
  repeat (first | ((first | (show AWL _ _ _ (⟨_, .move _, _, _, _, _⟩ :: _) _ _ _; refine awl_pw ?wtq (pv_move rfl rfl) rfl rfl ?_) | (show AWL _ _ _ (⟨_, .assign _, _, _, _, _⟩ :: _) _ _ _; refine awl_pw ?wtq (pv_assign rfl rfl) rfl rfl ?_) | (show AWL _ _ _ (⟨_, .extract _ _, _, _, _, _⟩ :: _) _ _ _; refine awl_pw ?wtq (pv_extract rfl rfl rfl) rfl rfl ?_)); case wtq => first | exact wt_none rfl | exact wt_some' rfl rfl rfl rfl (by first | rfl | assumption | exact dT (by omega) | exact dF (by omega))) | refine awl_nil ?_)
  exact cut_n ⟨rfl, rfl⟩ (by first | ((repeat' (first | exact True.intro | refine ⟨rfl, ?_⟩)); all_goals fail) | fail) (by solve | repeat' constructor)
theorem tu_19 {hs pp : Int} {cp : Bool} {cs : List ConD} {bk : AV} {x y : Ent} {L : List Int} {Q : List Int → List Int → Prop} {u13 u15 u16 u18 u19 u21 u22 u24 u25 u27 u28 u30 u31 u32 : AV} (hb : PCall Try.prog 19 [.ag [intA hs, .t (consT cp cs)]] (fun r => r = bk)) (hc : PCall Try.prog 18 [bk] (fun r => r = .tup [.t (intsT true L), intA 0])) {ops : Array Oper} (h : regF Try.f10 19 = some ops) :
    AWP Try.prog Try.f10.ntmps none (.region 19 ops false) (cutQ (fun s h => s = (33, .t (intsT true L)) :: (34, intA 0) :: [(12, intA pp), (3, .v (ptrV g3)), (7, .v (ptrV g7)), (8, .v (ptrV g8)), (13, u13), (15, u15), (16, u16), (18, u18), (19, u19), (21, u21), (22, u22), (24, u24), (25, u25), (27, u27), (28, u28), (30, u30), (31, u31), (32, u32)] ∧ h = [x, .cl g7 24 [intA hs, .t (consT cp cs)], y])) [(12, intA pp), (3, .v (ptrV g3)), (7, .v (ptrV g7)), (8, .v (ptrV g8)), (13, u13), (15, u15), (16, u16), (18, u18), (19, u19), (21, u21), (22, u22), (24, u24), (25, u25), (27, u27), (28, u28), (30, u30), (31, u31), (32, u32)] [x, .cl g7 24 [intA hs, .t (consT cp cs)], y] := by
  cases h
  repeat (first | refine awp_region_lit rfl ?_ | ((first | (show AWL _ _ _ (⟨_, .load _ _, _, _, _, _⟩ :: _) _ _ _; refine awl_lw ?wtq (lv_cla T0 rfl rfl rfl (by solve | repeat' constructor) rfl) rfl rfl rfl ?_)); case wtq => first | exact wt_none rfl | exact wt_some' rfl rfl rfl rfl (by first | rfl | assumption | exact dT (by omega) | exact dF (by omega))))
  refine awl_hw (by first | exact wt_none rfl | exact wt_some' rfl rfl rfl rfl (by first | rfl | assumption | exact dT (by omega) | exact dF (by omega))) (st_call T0 (hb) rfl rfl rfl rfl (by first | exact callee_lit | exact callee_v | exact callee_fn | assumption) (by solve | repeat' constructor) (by first | rfl | assumption) rfl ?_)
  rintro _ rfl
  skip
  refine awl_hw (by first | exact wt_none rfl | exact wt_some' rfl rfl rfl rfl (by first | rfl | assumption | exact dT (by omega) | exact dF (by omega))) (st_call T0 (hc) rfl rfl rfl rfl (by first | exact callee_lit | exact callee_v | exact callee_fn | assumption) (by solve | repeat' constructor) (by first | rfl | assumption) rfl ?_)
  rintro _ rfl
  repeat (first | ((first | (show AWL _ _ _ (⟨_, .move _, _, _, _, _⟩ :: _) _ _ _; refine awl_pw ?wtq (pv_move rfl rfl) rfl rfl ?_) | (show AWL _ _ _ (⟨_, .assign _, _, _, _, _⟩ :: _) _ _ _; refine awl_pw ?wtq (pv_assign rfl rfl) rfl rfl ?_) | (show AWL _ _ _ (⟨_, .extract _ _, _, _, _, _⟩ :: _) _ _ _; refine awl_pw ?wtq (pv_extract rfl rfl rfl) rfl rfl ?_)); case wtq => first | exact wt_none rfl | exact wt_some' rfl rfl rfl rfl (by first | rfl | assumption | exact dT (by omega) | exact dF (by omega))) | refine awl_nil ?_)
  exact cut_n ⟨rfl, rfl⟩ (by first | ((repeat' (first | exact True.intro | refine ⟨rfl, ?_⟩)); all_goals fail) | fail) (by solve | repeat' constructor)
theorem tu_20 {hs pp : Int} {cp : Bool} {cs : List ConD} {bk : AV} {x y : Ent} {L : List Int} {Q : List Int → List Int → Prop} {u13 u15 u16 u18 u19 u21 u22 u24 u25 u27 u28 u30 u31 u32 u33 u34 : AV} (hb : PCall Try.prog 19 [.ag [intA hs, .t (consT cp cs)]] (fun r => r = bk)) (hc : PCall Try.prog 20 [bk, intA pp] (fun r => r = .tup [.t (intsT true L), intA 0])) {ops : Array Oper} (h : regF Try.f10 20 = some ops) :
    AWP Try.prog Try.f10.ntmps none (.region 20 ops false) (cutQ (fun s h => s = (35, .t (intsT true L)) :: (36, intA 0) :: [(12, intA pp), (3, .v (ptrV g3)), (7, .v (ptrV g7)), (8, .v (ptrV g8)), (13, u13), (15, u15), (16, u16), (18, u18), (19, u19), (21, u21), (22, u22), (24, u24), (25, u25), (27, u27), (28, u28), (30, u30), (31, u31), (32, u32), (33, u33), (34, u34)] ∧ h = [.cl g3 24 [intA hs, .t (consT cp cs)], x, y])) [(12, intA pp), (3, .v (ptrV g3)), (7, .v (ptrV g7)), (8, .v (ptrV g8)), (13, u13), (15, u15), (16, u16), (18, u18), (19, u19), (21, u21), (22, u22), (24, u24), (25, u25), (27, u27), (28, u28), (30, u30), (31, u31), (32, u32), (33, u33), (34, u34)] [.cl g3 24 [intA hs, .t (consT cp cs)], x, y] := by
  cases h
  repeat (first | refine awp_region_lit rfl ?_ | ((first | (show AWL _ _ _ (⟨_, .load _ _, _, _, _, _⟩ :: _) _ _ _; refine awl_lw ?wtq (lv_cla T0 rfl rfl rfl (by solve | repeat' constructor) rfl) rfl rfl rfl ?_)); case wtq => first | exact wt_none rfl | exact wt_some' rfl rfl rfl rfl (by first | rfl | assumption | exact dT (by omega) | exact dF (by omega))))
  refine awl_hw (by first | exact wt_none rfl | exact wt_some' rfl rfl rfl rfl (by first | rfl | assumption | exact dT (by omega) | exact dF (by omega))) (st_call T0 (hb) rfl rfl rfl rfl (by first | exact callee_lit | exact callee_v | exact callee_fn | assumption) (by solve | repeat' constructor) (by first | rfl | assumption) rfl ?_)
  rintro _ rfl
  repeat (first | ((first | (show AWL _ _ _ (⟨_, .move _, _, _, _, _⟩ :: _) _ _ _; refine awl_pw ?wtq (pv_move rfl rfl) rfl rfl ?_)); case wtq => first | exact wt_none rfl | exact wt_some' rfl rfl rfl rfl (by first | rfl | assumption | exact dT (by omega) | exact dF (by omega))))
  refine awl_hw (by first | exact wt_none rfl | exact wt_some' rfl rfl rfl rfl (by first | rfl | assumption | exact dT (by omega) | exact dF (by omega))) (st_call T0 (hc) rfl rfl rfl rfl (by first | exact callee_lit | exact callee_v | exact callee_fn | assumption) (by solve | repeat' constructor) (by first | rfl | assumption) rfl ?_)
  rintro _ rfl
  repeat (first | ((first | (show AWL _ _ _ (⟨_, .move _, _, _, _, _⟩ :: _) _ _ _; refine awl_pw ?wtq (pv_move rfl rfl) rfl rfl ?_) | (show AWL _ _ _ (⟨_, .assign _, _, _, _, _⟩ :: _) _ _ _; refine awl_pw ?wtq (pv_assign rfl rfl) rfl rfl ?_) | (show AWL _ _ _ (⟨_, .extract _ _, _, _, _, _⟩ :: _) _ _ _; refine awl_pw ?wtq (pv_extract rfl rfl rfl) rfl rfl ?_)); case wtq => first | exact wt_none rfl | exact wt_some' rfl rfl rfl rfl (by first | rfl | assumption | exact dT (by omega) | exact dF (by omega))) | refine awl_nil ?_)
  exact cut_n ⟨rfl, rfl⟩ (by first | ((repeat' (first | exact True.intro | refine ⟨rfl, ?_⟩)); all_goals fail) | fail) (by solve | repeat' constructor)
theorem tu_21 {hs pp : Int} {cp : Bool} {cs : List ConD} {bk : AV} {x y : Ent} {L : List Int} {Q : List Int → List Int → Prop} {u13 u15 u16 u18 u19 u21 u22 u24 u25 u27 u28 u30 u31 u32 u33 u34 u35 u36 : AV} (hb : PCall Try.prog 19 [.ag [intA hs, .t (consT cp cs)]] (fun r => r = bk)) (hc : PCall Try.prog 20 [bk, intA pp] (fun r => r = .tup [.t (intsT true L), intA 0])) {ops : Array Oper} (h : regF Try.f10 21 = some ops) :
    AWP Try.prog Try.f10.ntmps none (.region 21 ops false) (cutQ (fun s h => s = (37, .t (intsT true L)) :: (38, intA 0) :: [(12, intA pp), (3, .v (ptrV g3)), (7, .v (ptrV g7)), (8, .v (ptrV g8)), (13, u13), (15, u15), (16, u16), (18, u18), (19, u19), (21, u21), (22, u22), (24, u24), (25, u25), (27, u27), (28, u28), (30, u30), (31, u31), (32, u32), (33, u33), (34, u34), (35, u35), (36, u36)] ∧ h = [x, .cl g7 24 [intA hs, .t (consT cp cs)], y])) [(12, intA pp), (3, .v (ptrV g3)), (7, .v (ptrV g7)), (8, .v (ptrV g8)), (13, u13), (15, u15), (16, u16), (18, u18), (19, u19), (21, u21), (22, u22), (24, u24), (25, u25), (27, u27), (28, u28), (30, u30), (31, u31), (32, u32), (33, u33), (34, u34), (35, u35), (36, u36)] [x, .cl g7 24 [intA hs, .t (consT cp cs)], y] := by
  cases h
  repeat (first | refine awp_region_lit rfl ?_ | ((first | (show AWL _ _ _ (⟨_, .load _ _, _, _, _, _⟩ :: _) _ _ _; refine awl_lw ?wtq (lv_cla T0 rfl rfl rfl (by solve | repeat' constructor) rfl) rfl rfl rfl ?_)); case wtq => first | exact wt_none rfl | exact wt_some' rfl rfl rfl rfl (by first | rfl | assumption | exact dT (by omega) | exact dF (by omega))))
  refine awl_hw (by first | exact wt_none rfl | exact wt_some' rfl rfl rfl rfl (by first | rfl | assumption | exact dT (by omega) | exact dF (by omega))) (st_call T0 (hb) rfl rfl rfl rfl (by first | exact callee_lit | exact callee_v | exact callee_fn | assumption) (by solve | repeat' constructor) (by first | rfl | assumption) rfl ?_)
  rintro _ rfl
  repeat (first | ((first | (show AWL _ _ _ (⟨_, .move _, _, _, _, _⟩ :: _) _ _ _; refine awl_pw ?wtq (pv_move rfl rfl) rfl rfl ?_)); case wtq => first | exact wt_none rfl | exact wt_some' rfl rfl rfl rfl (by first | rfl | assumption | exact dT (by omega) | exact dF (by omega))))
  refine awl_hw (by first | exact wt_none rfl | exact wt_some' rfl rfl rfl rfl (by first | rfl | assumption | exact dT (by omega) | exact dF (by omega))) (st_call T0 (hc) rfl rfl rfl rfl (by first | exact callee_lit | exact callee_v | exact callee_fn | assumption) (by solve | repeat' constructor) (by first | rfl | assumption) rfl ?_)
  rintro _ rfl
  repeat (first | ((first | (show AWL _ _ _ (⟨_, .move _, _, _, _, _⟩ :: _) _ _ _; refine awl_pw ?wtq (pv_move rfl rfl) rfl rfl ?_) | (show AWL _ _ _ (⟨_, .assign _, _, _, _, _⟩ :: _) _ _ _; refine awl_pw ?wtq (pv_assign rfl rfl) rfl rfl ?_) | (show AWL _ _ _ (⟨_, .extract _ _, _, _, _, _⟩ :: _) _ _ _; refine awl_pw ?wtq (pv_extract rfl rfl rfl) rfl rfl ?_)); case wtq => first | exact wt_none rfl | exact wt_some' rfl rfl rfl rfl (by first | rfl | assumption | exact dT (by omega) | exact dF (by omega))) | refine awl_nil ?_)
  exact cut_n ⟨rfl, rfl⟩ (by first | ((repeat' (first | exact True.intro | refine ⟨rfl, ?_⟩)); all_goals fail) | fail) (by solve | repeat' constructor)
end
theorem turnedlaw_p (hA : PCall Try.prog 17 [] (fun r => r = boolA true)) (b : BookD) (price by' : Int) (hl0 : b.cons.length ≤ 9223372036854775807) (h1 : 0 ≤ price ∧ price ≤ 65535) (h2 : 0 ≤ by' ∧ by' ≤ 255) : PCall Try.prog 10 [bookA false b, .v (.int .u16 price), .v (.int .u8 by')] (fun r => r = boolA true) := by
  refine acall_of_awp T0 Try.func10 rfl rfl rfl ?_
  repeat (first | refine awp_seq ?_ | refine awp_region_lit rfl ?_)
  refine awl_hw (by first | exact wt_none rfl | exact wt_some' rfl rfl rfl rfl (by first | rfl | assumption | exact dT (by omega) | exact dF (by omega))) (st_box rfl rfl (by first | rfl | assumption) (by first | assumption | (simp only [cellsA]; rfl)) rfl rfl ?_)
  intro g3
  repeat (first | refine awp_seq ?_ | refine awp_region_lit rfl ?_ | ((first | (show AWL _ _ _ (⟨_, .assign _, _, _, _, _⟩ :: _) _ _ _; refine awl_pw ?wtq (pv_assign rfl rfl) rfl rfl ?_) | (show AWL _ _ _ (⟨_, .load _ _, _, _, _, _⟩ :: _) _ _ _; refine awl_lw ?wtq (lv_cla T0 rfl rfl rfl (by solve | repeat' constructor) rfl) rfl rfl rfl ?_)); case wtq => first | exact wt_none rfl | exact wt_some' rfl rfl rfl rfl (by first | rfl | assumption | exact dT (by omega) | exact dF (by omega))) | refine awl_nil ?_)
  cases hrd : readyB b
  · refine awl_hw (by first | exact wt_none rfl | exact wt_some' rfl rfl rfl rfl (by first | rfl | assumption | exact dT (by omega) | exact dF (by omega))) (st_call T0 (ready_w hl0 hrd) rfl rfl rfl rfl (by first | exact callee_lit | exact callee_v | exact callee_fn | assumption) (by solve | repeat' constructor) (by first | rfl | assumption) rfl ?_)
    rintro _ rfl
    repeat (first | refine awp_seq ?_ | refine awp_region_lit rfl ?_ | refine then_n ?_ | refine awp_cond_t rfl (by first | rfl | assumption | exact dT (by omega)) ?_ | ((first | (show AWL _ _ _ (⟨_, .unOp .not _ _, _, _, _, _⟩ :: _) _ _ _; refine awl_pw ?wtq (pv_not rfl rfl) rfl rfl ?_)); case wtq => first | exact wt_none rfl | exact wt_some' rfl rfl rfl rfl (by first | rfl | assumption | exact dT (by omega) | exact dF (by omega))) | refine awl_nil ?_)
    refine awl_hw (by first | exact wt_none rfl | exact wt_some' rfl rfl rfl rfl (by first | rfl | assumption | exact dT (by omega) | exact dF (by omega))) (st_call T0 (hA) rfl rfl rfl rfl (by first | exact callee_lit | exact callee_v | exact callee_fn | assumption) (by solve | repeat' constructor) (by first | rfl | assumption) rfl ?_)
    rintro _ rfl
    repeat (first | refine awp_ret ?_ | refine then_r ?_ | ((first | (show AWL _ _ _ (⟨_, .assign _, _, _, _, _⟩ :: _) _ _ _; refine awl_pw ?wtq (pv_assign rfl rfl) rfl rfl ?_)); case wtq => first | exact wt_none rfl | exact wt_some' rfl rfl rfl rfl (by first | rfl | assumption | exact dT (by omega) | exact dF (by omega))) | refine awl_nil ?_)
    exact body_p (.cons rfl .nil) rfl
  obtain ⟨hv, hf⟩ := ready_v hrd
  have hh := hv.houses
  have hlen := hv.len
  have hl : b.cons.length ≤ 1000 := by omega
  obtain ⟨B, hB⟩ := Int.eq_ofNat_of_zero_le h2.1
  obtain ⟨H, hH⟩ : ∃ n : Nat, b.houses = n := ⟨b.houses.toNat, by omega⟩
  have hHt : b.houses.toNat = H := by omega
  refine awl_hw (by first | exact wt_none rfl | exact wt_some' rfl rfl rfl rfl (by first | rfl | assumption | exact dT (by omega) | exact dF (by omega))) (st_call T0 (ready_w hl0 hrd) rfl rfl rfl rfl (by first | exact callee_lit | exact callee_v | exact callee_fn | assumption) (by solve | repeat' constructor) (by first | rfl | assumption) rfl ?_)
  rintro _ rfl
  repeat (first | refine awp_seq ?_ | refine awp_skip ?_ | refine then_n ?_ | refine awp_cond_f rfl (by first | rfl | assumption | exact dF (by omega)) ?_ | ((first | (show AWL _ _ _ (⟨_, .unOp .not _ _, _, _, _, _⟩ :: _) _ _ _; refine awl_pw ?wtq (pv_not rfl rfl) rfl rfl ?_)); case wtq => first | exact wt_none rfl | exact wt_some' rfl rfl rfl rfl (by first | rfl | assumption | exact dT (by omega) | exact dF (by omega))) | refine awl_nil ?_)
  refine awp_cut _ (awp_weak (by first | ((repeat' (first | exact True.intro | refine ⟨rfl, ?_⟩)); all_goals fail) | fail) (by solve | repeat' constructor) (tu_3 (b := b) (u1 := .v (.int .u16 price)) (u2 := .v (.int .u8 by')) (g3 := g3) rfl)) ?_
  rintro s h ⟨g7, g8, rfl, rfl⟩
  repeat (first | refine awp_seq ?_ | refine awp_block ?_ | refine awp_region_lit rfl ?_ | ((first | (show AWL _ _ _ (⟨_, .assign _, _, _, _, _⟩ :: _) _ _ _; refine awl_pw ?wtq (pv_assign rfl rfl) rfl rfl ?_)); case wtq => first | exact wt_none rfl | exact wt_some' rfl rfl rfl rfl (by first | rfl | assumption | exact dT (by omega) | exact dF (by omega))) | refine awl_nil ?_)
  refine awp_ghost (ghost_nilrow 67 4) ?_
  refine awp_ghost (ghost_nilrow 67 4) ?_
  refine awp_loop (fun m s h => ∃ (i : Nat) (a a' : Option Addr) (c c' : Nat) (r1 r2 : List (List AV)), i ≤ b.cons.length ∧ m = b.cons.length - i ∧ r1.length = i ∧ r2.length = i ∧ r1 = ((b.cons.take i).map turnC).map conRow ∧ r2 = ((b.cons.take i).map (rotC H B)).map conRow ∧
    s = (7, .v (ptrV g7)) :: (8, .v (ptrV g8)) :: (9, intA i) :: tuS (.v (.int .u16 price)) (.v (.int .u8 by')) g3 ∧
    h = [refB g3 b, .cl g7 24 [intA b.houses, .v (.slice a i c)], .cl g8 24 [intA b.houses, .v (.slice a' i c')], .rw (.slice a i c) 67 4 r1, .rw (.slice a' i c') 67 4 r2]) ?_ ⟨0, _, _, _, _, _, _, Nat.zero_le _, rfl, rfl, rfl, rfl, rfl, rfl, rfl⟩ (by first | ((repeat' (first | exact True.intro | refine ⟨rfl, ?_⟩)); all_goals fail) | fail) (by solve | repeat' constructor)
  rintro m s h ⟨i, a, a', c, c', r1, r2, hi, rfl, n1, n2, hr1, hr2, rfl, rfl⟩
  by_cases hlt : i < b.cons.length
  · have hfr := hv.frm i hlt
    have hto := hv.to i hlt
    have es := map_step' (g := turnC) hlt
    have et := map_step' (g := rotC H B) hlt
    have e1 := tmod_sig (H := H) (B := B) (j := (b.cons.getD i default).frm.toNat) (x := (b.cons.getD i default).frm) (y := by') (h := b.houses) (by omega) hB hH
    have e2 := tmod_sig (H := H) (B := B) (j := (b.cons.getD i default).to.toNat) (x := (b.cons.getD i default).to) (y := by') (h := b.houses) (by omega) hB hH
    repeat (first | refine awp_seq ?_ | refine awp_block ?_ | refine awp_region_lit rfl ?_ | refine awp_skip ?_ | refine then_n ?_ | refine awp_cond_t rfl (by first | rfl | assumption | exact dT (by omega)) ?_ | ((first | (show AWL _ _ _ (⟨_, .move _, _, _, _, _⟩ :: _) _ _ _; refine awl_pw ?wtq (pv_move rfl rfl) rfl rfl ?_) | (show AWL _ _ _ (⟨_, .load _ _, _, _, _, _⟩ :: _) _ _ _; refine awl_lw ?wtq (lv_cl1 T0 rfl rfl rfl (by solve | repeat' constructor) (by first | rfl | assumption)) rfl rfl rfl ?_) | (show AWL _ _ _ (⟨_, .fieldAddr _ _ _, _, _, _, _⟩ :: _) _ _ _; refine awl_pw ?wtq (pv_fa T0 rfl rfl rfl (by simp; rfl)) rfl rfl ?_) | (show AWL _ _ _ (⟨_, .binOp .lss _ _ _ _, _, _, _, _⟩ :: _) _ _ _; refine awl_pw ?wtq (pv_lss rfl rfl rfl) rfl rfl ?_) | (show AWL _ _ _ (⟨_, .call ⟨.builtin .len, _, _⟩, _, _, _, _⟩ :: _) _ _ _; refine awl_pw ?wtq (pv_len_t T0 rfl rfl rfl) rfl rfl ?_)); case wtq => first | exact wt_none rfl | exact wt_some' rfl rfl rfl rfl (by first | rfl | assumption | exact dT (by omega) | exact dF (by omega))) | refine awl_nil ?_)
    refine awp_cut _ (awp_weak (by first | ((repeat' (first | exact True.intro | refine ⟨rfl, ?_⟩)); all_goals fail) | fail) (by solve | repeat' constructor) (tu_7 (b := b) (u1 := .v (.int .u16 price)) (u2 := .v (.int .u8 by')) (g3 := g3) (g7 := g7) (g8 := g8) (i := i) hlt rfl)) ?_
    rintro s h ⟨g10, g11, rfl, rfl⟩
    repeat (first | refine awp_seq ?_ | refine awp_region_lit rfl ?_ | ((first | (show AWL _ _ _ (⟨_, .load _ _, _, _, _, _⟩ :: _) _ _ _; refine awl_lw ?wtq (lv_cl1 T0 rfl rfl rfl (by solve | repeat' constructor) (by first | rfl | assumption)) rfl rfl rfl ?_) | (show AWL _ _ _ (⟨_, .fieldAddr _ _ _, _, _, _, _⟩ :: _) _ _ _; refine awl_pw ?wtq (pv_fa T0 rfl rfl rfl (by simp; rfl)) rfl rfl ?_)); case wtq => first | exact wt_none rfl | exact wt_some' rfl rfl rfl rfl (by first | rfl | assumption | exact dT (by omega) | exact dF (by omega))) | (show AWL _ _ _ (⟨_, .store _ _ _, _, _, _, _⟩ :: _) _ _ _; refine awl_hw (by first | exact wt_none rfl | exact wt_some' rfl rfl rfl rfl (by first | rfl | assumption | exact dT (by omega) | exact dF (by omega))) (st_store T0 rfl rfl rfl rfl rfl (by first | assumption | (simp only [cellsA]; rfl)) rfl rfl rfl (by solve | repeat' constructor) (by solve | repeat' constructor) trivial ?_)) | refine awl_nil ?_)
    refine awp_cut _ (awp_weak (by first | ((repeat' (first | exact True.intro | refine ⟨rfl, ?_⟩)); all_goals fail) | fail) (by solve | repeat' constructor) (tu_9 (b := b) (u1 := .v (.int .u16 price)) (by' := by') (g3 := g3) (g7 := g7) (g8 := g8) (g10 := g10) (g11 := g11) (i := i) (c := b.cons.getD i default) (rest := [.cl g7 24 [intA b.houses, .v (.slice a i c)], .cl g8 24 [intA b.houses, .v (.slice a' i c')], .cl g10 67 [intA (b.cons.getD i default).to, intA (b.cons.getD i default).frm, intA (b.cons.getD i default).num, intA (b.cons.getD i default).price], .rw (.slice a i c) 67 4 r1, .rw (.slice a' i c') 67 4 r2]) h2 hh (by omega) (by omega) e1 e2 rfl)) ?_
    rintro s h ⟨rfl, rfl⟩
    skip
    refine awp_cutB _ (awp_weak (by first | ((repeat' (first | exact True.intro | refine ⟨rfl, ?_⟩)); all_goals fail) | fail) (by solve | repeat' constructor) (tu_10 (b := b) (u1 := .v (.int .u16 price)) (u2 := .v (.int .u8 by')) (g3 := g3) (g7 := g7) (g8 := g8) (g10 := g10) (g11 := g11) (i := i) (cx := turnC (b.cons.getD i default)) (cy := rotC H B (b.cons.getD i default)) (r1 := r1) (r2 := r2) (a := a) (c := c) (a' := a') (c' := c') (by omega) n1 n2 rfl)) ?_
    rintro s h ⟨b1, d1, b2, d2, rfl, rfl⟩
    repeat (first | refine awp_region_lit rfl ?_ | ((first | (show AWL _ _ _ (⟨_, .move _, _, _, _, _⟩ :: _) _ _ _; refine awl_pw ?wtq (pv_move rfl rfl) rfl rfl ?_) | (show AWL _ _ _ (⟨_, .assign _, _, _, _, _⟩ :: _) _ _ _; refine awl_pw ?wtq (pv_assign rfl rfl) rfl rfl ?_) | (show AWL _ _ _ (⟨_, .binOp .add _ _ _ _, _, _, _, _⟩ :: _) _ _ _; refine awl_pw ?wtq (pv_add rfl rfl rfl (by first | assumption | exact wr64 (by omega))) rfl rfl ?_)); case wtq => first | exact wt_none rfl | exact wt_some' rfl rfl rfl rfl (by first | rfl | assumption | exact dT (by omega) | exact dF (by omega))) | refine awl_nil ?_)
    refine rnd_n _ _ _ ?_ ⟨i + 1, _, _, _, _, _, _, hlt, rfl, ?_, ?_, ?_, ?_, rfl, rfl⟩ (by first | ((repeat' (first | exact True.intro | refine ⟨rfl, ?_⟩)); all_goals fail) | fail) (by solve | repeat' constructor)
    · omega
    · simp; omega
    · simp; omega
    · rw [es, hr1]
    · rw [et, hr2]
  as_aux_lemma =>
    obtain rfl : i = b.cons.length := by omega
    rw [List.take_length] at hr1 hr2
    subst hHt
    have hXv := turn_valid hv
    have hYv := rot_valid hv B
    have hXl := mapB_len b turnC
    have hYl := mapB_len b (rotC b.houses.toNat B)
    have hXg := fun o1 p1 o2 p2 => turn_gr (b := b) (o1 := o1) (h1 := p1) (o2 := o2) (h2 := p2)
    have hYg := fun o1 p1 o2 p2 => rot_gr (b := b) hv B (o1 := o1) (h1 := p1) (o2 := o2) (h2 := p2)
    have hXm := fun s => min_iff (b := b) (x := mapB b turnC) hXl (fun S => turn_enough hv) (s := s)
    have hYm := fun s => min_iff (b := b) (x := mapB b (rotC b.houses.toNat B)) hYl (fun S => rot_enough hv B) (s := s)
    have hpm : 0 ≤ price.tmod 1000 ∧ price.tmod 1000 < 1000 := ⟨Int.tmod_nonneg _ h1.1, Int.tmod_lt_of_pos _ (by omega)⟩
    obtain ⟨om, hom⟩ : ∃ om, price.tmod 1000 = om := ⟨_, rfl⟩
    rw [hom] at hpm
    have hXn1 : ∀ h, h < b.houses.toNat → (netL b (numF b)).getD h 0 = 0 - (netL (mapB b turnC) (numF (mapB b turnC))).getD h 0 := fun h hh' => turn_net (fun i hi => by unfold numF; rw [map_at hi]; rfl) hh'
    have hXn2 : ∀ h, h < b.houses.toNat → (netL b (fun i => -(payF b (1 + om) i))).getD h 0 = 0 - (netL (mapB b turnC) (fun i => -(payF (mapB b turnC) (1 + om) i))).getD h 0 := fun h hh' => turn_net (fun i hi => by unfold payF; rw [map_at hi]; rfl) hh'
    have hXh : (mapB b turnC).houses = b.houses := rfl
    have hYh : (mapB b (rotC b.houses.toNat B)).houses = b.houses := rfl
    have hr1' : r1 = (mapB b turnC).cons.map conRow := hr1
    have hr2' : r2 = (mapB b (rotC b.houses.toNat B)).cons.map conRow := hr2
    generalize mapB b turnC = X at *
    generalize mapB b (rotC b.houses.toNat B) = Y at *
    have eX : Tr.sl true 4 b.cons.length (fun q => conL (X.cons.getD q default)) = consT true X.cons := by rw [← hXl]; rfl
    have eY : Tr.sl true 4 b.cons.length (fun q => conL (Y.cons.getD q default)) = consT true Y.cons := by rw [← hYl]; rfl
    refine awp_ghost (ghost_freeze_cell (g := g7) (j := 1) (v := .slice a b.cons.length c) (E := 67) (sz := 4) (n := b.cons.length) (rows := r1) (fun q => conL (X.cons.getD q default)) (by solve | repeat' constructor) (by solve | repeat' constructor) rfl rfl n1 (by rw [hr1', ← hXl]; exact tree_at)) ?_
    refine awp_ghost (ghost_freeze_cell (g := g8) (j := 1) (v := .slice a' b.cons.length c') (E := 67) (sz := 4) (n := b.cons.length) (rows := r2) (fun q => conL (Y.cons.getD q default)) (by solve | repeat' constructor) (by solve | repeat' constructor) rfl rfl n2 (by rw [hr2', ← hYl]; exact tree_at)) ?_
    rw [eX, eY]
    clear eX eY hr1 hr2 hr1' hr2'
    have hfX := fault_of hXv
    have hfY := fault_of hYv
    have hbX : PCall Try.prog 19 [.ag [intA b.houses, .t (consT true X.cons)]] (fun r => r = bookA true X) := by rw [← hXh]; exact book_w true _ (by omega)
    have hbY : PCall Try.prog 19 [.ag [intA b.houses, .t (consT true Y.cons)]] (fun r => r = bookA true Y) := by rw [← hYh]; exact book_w true _ (by omega)
    have hin : inB (1 + om) 1 1000 = true := inB_iff.2 (by omega)
    have hdb := differences_p true b hl
    have hdX := differences_p true X (by omega)
    unfold difA at hdb hdX
    rw [if_pos hf] at hdb
    rw [if_pos hfX] at hdX
    have hmb := money_p true b (1 + om) hl
    have hmX := money_p true X (1 + om) (by omega)
    unfold monA at hmb hmX
    rw [if_neg (fun h => h hf), if_neg (by rw [hin]; simp)] at hmb
    rw [if_neg (fun h => h hfX), if_neg (by rw [hin]; simp)] at hmX
    have k1 : (netL b (numF b)).length = b.houses.toNat := netL_len
    have k2 : (netL X (numF X)).length = b.houses.toNat := by rw [netL_len, hXh]
    have k3 : (netL b (fun i => -(payF b (1 + om) i))).length = b.houses.toNat := netL_len
    have k4 : (netL X (fun i => -(payF X (1 + om) i))).length = b.houses.toNat := by rw [netL_len, hXh]
    have hnb : ∀ i, i < X.cons.length → -1000000 ≤ numF X i ∧ numF X i ≤ 1000000 := fun i hi => by have := hXv.num i hi; unfold numF; omega
    have hpb : ∀ i, i < X.cons.length → -1000000 ≤ -(payF X (1 + om) i) ∧ -(payF X (1 + om) i) ≤ 1000000 := fun i hi => by
      have := pay_bd (hXv.num i hi) (hXv.price i hi) (p := 1 + om) (by omega)
      unfold payF
      omega
    have b2 := netL_bd' (b := X) (f := numF X) hXv.len hnb
    have b4 := netL_bd' (b := X) (f := fun i => -(payF X (1 + om) i)) hXv.len hpb
    generalize netL b (numF b) = C at *
    generalize netL X (numF X) = D at *
    generalize netL b (fun i => -(payF b (1 + om) i)) = V at *
    generalize netL X (fun i => -(payF X (1 + om) i)) = W at *
    clear hnb hpb
    have q1 : decide ((C.length : Int) ≠ b.houses) = false := decide_eq_false (by omega)
    have q2 : decide ((D.length : Int) ≠ b.houses) = false := decide_eq_false (by omega)
    have q3 : decide ((V.length : Int) ≠ b.houses) = false := decide_eq_false (by omega)
    have q4 : decide ((W.length : Int) ≠ b.houses) = false := decide_eq_false (by omega)
    have cg1 : PCall Try.prog 30 [bookA true b] (fun r => ∃ S L, isGr b S L ∧ r = .tup [.t (intsT true S), .t (intsT true L), intA 0]) := by
      refine (greatest_p true b hl).mono fun r hr => ?_
      rw [if_pos hf] at hr
      obtain ⟨o, ho, e, hg⟩ := hr
      exact ⟨o, ho, hg, e⟩
    have cg2 : PCall Try.prog 30 [bookA true X] (fun r => ∃ S L, isGr X S L ∧ r = .tup [.t (intsT true S), .t (intsT true L), intA 0]) := by
      refine (greatest_p true X (by omega)).mono fun r hr => ?_
      rw [if_pos hfX] at hr
      obtain ⟨o, ho, e, hg⟩ := hr
      exact ⟨o, ho, hg, e⟩
    have cg3 : PCall Try.prog 30 [bookA true Y] (fun r => ∃ S L, isGr Y S L ∧ r = .tup [.t (intsT true S), .t (intsT true L), intA 0]) := by
      refine (greatest_p true Y (by omega)).mono fun r hr => ?_
      rw [if_pos hfY] at hr
      obtain ⟨o, ho, e, hg⟩ := hr
      exact ⟨o, ho, hg, e⟩
    have cf1 : PCall Try.prog 38 [bookA true b] (fun r => ∃ (S L : List Int), MinS b S ∧ r = .tup [.t (intsT true S), .t (intsT true L), intA 0]) := by
      refine (fewest_p true b hl).mono fun r hr => ?_
      rw [if_pos hf] at hr
      obtain ⟨S, f, hF, e⟩ := hr
      exact ⟨S, _, hF.min, e⟩
    have cf2 : PCall Try.prog 38 [bookA true X] (fun r => ∃ (S L : List Int), MinS X S ∧ r = .tup [.t (intsT true S), .t (intsT true L), intA 0]) := by
      refine (fewest_p true X (by omega)).mono fun r hr => ?_
      rw [if_pos hfX] at hr
      obtain ⟨S, f, hF, e⟩ := hr
      exact ⟨S, _, hF.min, e⟩
    have cf3 : PCall Try.prog 38 [bookA true Y] (fun r => ∃ (S L : List Int), MinS Y S ∧ r = .tup [.t (intsT true S), .t (intsT true L), intA 0]) := by
      refine (fewest_p true Y (by omega)).mono fun r hr => ?_
      rw [if_pos hfY] at hr
      obtain ⟨S, f, hF, e⟩ := hr
      exact ⟨S, _, hF.min, e⟩
    repeat (first | refine awp_seq ?_ | refine awp_region_lit rfl ?_ | refine awp_exit ?_ | refine then_n ?_ | refine awp_cond_f rfl (by first | rfl | assumption | exact dF (by omega)) ?_ | ((first | (show AWL _ _ _ (⟨_, .move _, _, _, _, _⟩ :: _) _ _ _; refine awl_pw ?wtq (pv_move rfl rfl) rfl rfl ?_) | (show AWL _ _ _ (⟨_, .assign _, _, _, _, _⟩ :: _) _ _ _; refine awl_pw ?wtq (pv_assign rfl rfl) rfl rfl ?_) | (show AWL _ _ _ (⟨_, .load _ _, _, _, _, _⟩ :: _) _ _ _; refine awl_lw ?wtq (lv_cl1 T0 rfl rfl rfl (by solve | repeat' constructor) (by first | rfl | assumption)) rfl rfl rfl ?_) | (show AWL _ _ _ (⟨_, .load _ _, _, _, _, _⟩ :: _) _ _ _; refine awl_lw ?wtq (lv_cla T0 rfl rfl rfl (by solve | repeat' constructor) rfl) rfl rfl rfl ?_) | (show AWL _ _ _ (⟨_, .fieldAddr _ _ _, _, _, _, _⟩ :: _) _ _ _; refine awl_pw ?wtq (pv_fa T0 rfl rfl rfl (by simp; rfl)) rfl rfl ?_) | (show AWL _ _ _ (⟨_, .binOp .add _ _ _ _, _, _, _, _⟩ :: _) _ _ _; refine awl_pw ?wtq (pv_add rfl rfl rfl (by first | assumption | exact wr64 (by omega))) rfl rfl ?_) | (show AWL _ _ _ (⟨_, .binOp .rem _ _ _ _, _, _, _, _⟩ :: _) _ _ _; refine awl_pw ?wtq (pv_rem rfl rfl rfl (by omega) (by first | assumption | rfl)) rfl rfl ?_) | (show AWL _ _ _ (⟨_, .binOp .lss _ _ _ _, _, _, _, _⟩ :: _) _ _ _; refine awl_pw ?wtq (pv_lss rfl rfl rfl) rfl rfl ?_) | (show AWL _ _ _ (⟨_, .call ⟨.builtin .len, _, _⟩, _, _, _, _⟩ :: _) _ _ _; refine awl_pw ?wtq (pv_len_t T0 rfl rfl rfl) rfl rfl ?_) | (show AWL _ _ _ (⟨_, .convert 70 _ _, _, _, _, _⟩ :: _) _ _ _; refine awl_pw ?wtq (pv_convert rfl rfl Try.underlying70 Try.underlying3 (by first | assumption | exact wr64 (by omega))) rfl rfl ?_)); case wtq => first | exact wt_none rfl | exact wt_some' rfl rfl rfl rfl (by first | rfl | assumption | exact dT (by omega) | exact dF (by omega))) | refine awl_nil ?_)
    refine awl_cut (fun s h => ∃ o ho, isGr b o ho ∧ s = [(13, .t (intsT true o)), (15, intA 0), (12, intA (1 + om)), (3, .v (ptrV g3)), (7, .v (ptrV g7)), (8, .v (ptrV g8))] ∧ h = [refB g3 b, .cl g7 24 [intA b.houses, .t (consT true X.cons)], .cl g8 24 [intA b.houses, .t (consT true Y.cons)]]) ?_ ?_
    · refine awl_hw (by first | exact wt_none rfl | exact wt_some' rfl rfl rfl rfl (by first | rfl | assumption | exact dT (by omega) | exact dF (by omega))) (st_call T0 (book_p b hl) rfl rfl rfl rfl (by first | exact callee_lit | exact callee_v | exact callee_fn | assumption) (by solve | repeat' constructor) (by first | rfl | assumption) rfl ?_)
      rintro _ rfl
      skip
      refine awl_hw (by first | exact wt_none rfl | exact wt_some' rfl rfl rfl rfl (by first | rfl | assumption | exact dT (by omega) | exact dF (by omega))) (st_call T0 (cg1) rfl rfl rfl rfl (by first | exact callee_lit | exact callee_v | exact callee_fn | assumption) (by solve | repeat' constructor) (by first | rfl | assumption) rfl ?_)
      rintro _ ⟨o', ho', hg', rfl⟩
      repeat (first | ((first | (show AWL _ _ _ (⟨_, .move _, _, _, _, _⟩ :: _) _ _ _; refine awl_pw ?wtq (pv_move rfl rfl) rfl rfl ?_) | (show AWL _ _ _ (⟨_, .assign _, _, _, _, _⟩ :: _) _ _ _; refine awl_pw ?wtq (pv_assign rfl rfl) rfl rfl ?_) | (show AWL _ _ _ (⟨_, .extract _ _, _, _, _, _⟩ :: _) _ _ _; refine awl_pw ?wtq (pv_extract rfl rfl rfl) rfl rfl ?_)); case wtq => first | exact wt_none rfl | exact wt_some' rfl rfl rfl rfl (by first | rfl | assumption | exact dT (by omega) | exact dF (by omega))) | refine awl_nil ?_)
      exact cut_n ⟨o', ho', hg', rfl, rfl⟩ (by first | ((repeat' (first | exact True.intro | refine ⟨rfl, ?_⟩)); all_goals fail) | fail) (by solve | repeat' constructor)
    rintro s h ⟨o, ho, hg, rfl, rfl⟩
    repeat (first | refine awp_seq ?_ | refine awp_block ?_ | refine then_n ?_)
    refine awp_cut _ (awp_weak (by first | ((repeat' (first | exact True.intro | refine ⟨rfl, ?_⟩)); all_goals fail) | fail) (by solve | repeat' constructor) (tu_13 (L := []) (g3 := g3) (g7 := g7) (g8 := g8) (pp := 1 + om) (hs := b.houses) (cp := true) (cs := X.cons) (x := refB g3 b) (y := .cl g8 24 [intA b.houses, .t (consT true Y.cons)]) (u13 := .t (intsT true o)) (u15 := intA 0) (bk := bookA true X) (Q := isGr X) hbX cg2 rfl)) ?_
    rintro s h ⟨oX, hoX, hgX, rfl, rfl⟩
    repeat (first | refine awp_seq ?_ | refine awp_block ?_ | refine then_n ?_)
    refine awp_cut _ (awp_weak (by first | ((repeat' (first | exact True.intro | refine ⟨rfl, ?_⟩)); all_goals fail) | fail) (by solve | repeat' constructor) (tu_14 (L := []) (g3 := g3) (g7 := g7) (g8 := g8) (pp := 1 + om) (hs := b.houses) (cp := true) (cs := Y.cons) (x := refB g3 b) (y := .cl g7 24 [intA b.houses, .t (consT true X.cons)]) (u13 := .t (intsT true o)) (u15 := intA 0) (u16 := .t (intsT true oX)) (u18 := intA 0) (bk := bookA true Y) (Q := isGr Y) hbY cg3 rfl)) ?_
    rintro s h ⟨oY, hoY, hgY, rfl, rfl⟩
    have hG := gr_facts hv hg
    have hGX := gr_facts hXv hgX
    have hGY := gr_facts hYv hgY
    have eo1 := hXg _ _ _ _ hG hGX
    have eo2 := hYg _ _ _ _ hG hGY
    have ht := total_q true o (by rw [hG.len]; omega) (grf_elem hv hG)
    have htX := total_q true oX (by rw [hGX.len]; omega) (grf_elem hXv hGX)
    have htY := total_q true oY (by rw [hGY.len]; omega) (grf_elem hYv hGY)
    rw [← eo1] at htX
    rw [← eo2] at htY
    clear hXg hYg hG hGX hGY hg hgX hgY eo1 eo2 cg1 cg2 cg3
    repeat (first | refine awp_seq ?_ | refine awp_block ?_ | refine then_n ?_)
    refine awp_cut _ (awp_weak (by first | ((repeat' (first | exact True.intro | refine ⟨rfl, ?_⟩)); all_goals fail) | fail) (by solve | repeat' constructor) (tu_15 (L := []) (g3 := g3) (g7 := g7) (g8 := g8) (pp := 1 + om) (hs := b.houses) (cp := false) (cs := b.cons) (x := .cl g7 24 [intA b.houses, .t (consT true X.cons)]) (y := .cl g8 24 [intA b.houses, .t (consT true Y.cons)]) (u13 := .t (intsT true o)) (u15 := intA 0) (u16 := .t (intsT true oX)) (u18 := intA 0) (u19 := .t (intsT true oY)) (u21 := intA 0) (bk := bookA true b) (Q := fun S _ => MinS b S) (book_p b hl) cf1 rfl)) ?_
    rintro s h ⟨S, L1, hF, rfl, rfl⟩
    repeat (first | refine awp_seq ?_ | refine awp_block ?_ | refine then_n ?_)
    refine awp_cut _ (awp_weak (by first | ((repeat' (first | exact True.intro | refine ⟨rfl, ?_⟩)); all_goals fail) | fail) (by solve | repeat' constructor) (tu_16 (L := []) (g3 := g3) (g7 := g7) (g8 := g8) (pp := 1 + om) (hs := b.houses) (cp := true) (cs := X.cons) (x := refB g3 b) (y := .cl g8 24 [intA b.houses, .t (consT true Y.cons)]) (u13 := .t (intsT true o)) (u15 := intA 0) (u16 := .t (intsT true oX)) (u18 := intA 0) (u19 := .t (intsT true oY)) (u21 := intA 0) (u22 := .t (intsT true S)) (u24 := intA 0) (bk := bookA true X) (Q := fun S _ => MinS X S) hbX cf2 rfl)) ?_
    rintro s h ⟨SX, L2, hFX, rfl, rfl⟩
    repeat (first | refine awp_seq ?_ | refine awp_block ?_ | refine then_n ?_)
    refine awp_cut _ (awp_weak (by first | ((repeat' (first | exact True.intro | refine ⟨rfl, ?_⟩)); all_goals fail) | fail) (by solve | repeat' constructor) (tu_17 (L := []) (g3 := g3) (g7 := g7) (g8 := g8) (pp := 1 + om) (hs := b.houses) (cp := true) (cs := Y.cons) (x := refB g3 b) (y := .cl g7 24 [intA b.houses, .t (consT true X.cons)]) (u13 := .t (intsT true o)) (u15 := intA 0) (u16 := .t (intsT true oX)) (u18 := intA 0) (u19 := .t (intsT true oY)) (u21 := intA 0) (u22 := .t (intsT true S)) (u24 := intA 0) (u25 := .t (intsT true SX)) (u27 := intA 0) (bk := bookA true Y) (Q := fun S _ => MinS Y S) hbY cf3 rfl)) ?_
    rintro s h ⟨SY, L3, hFY, rfl, rfl⟩
    obtain rfl := min_unique hF (hXm _ hFX)
    obtain rfl := min_unique hF (hYm _ hFY)
    have hsl := ext_len hF.ext
    clear hXm hYm cf1 cf2 cf3
    repeat (first | refine awp_seq ?_ | refine awp_block ?_ | refine then_n ?_)
    refine awp_cut _ (awp_weak (by first | ((repeat' (first | exact True.intro | refine ⟨rfl, ?_⟩)); all_goals fail) | fail) (by solve | repeat' constructor) (tu_18 (g3 := g3) (g7 := g7) (g8 := g8) (pp := 1 + om) (hs := b.houses) (cp := false) (cs := b.cons) (x := .cl g7 24 [intA b.houses, .t (consT true X.cons)]) (y := .cl g8 24 [intA b.houses, .t (consT true Y.cons)]) (u13 := .t (intsT true o)) (u15 := intA 0) (u16 := .t (intsT true oX)) (u18 := intA 0) (u19 := .t (intsT true oY)) (u21 := intA 0) (u22 := .t (intsT true S)) (u24 := intA 0) (u25 := .t (intsT true S)) (u27 := intA 0) (u28 := .t (intsT true S)) (u30 := intA 0) (L := C) (bk := bookA true b) (Q := fun _ _ => True) (book_p b hl) hdb rfl)) ?_
    rintro s h ⟨rfl, rfl⟩
    repeat (first | refine awp_seq ?_ | refine awp_block ?_ | refine then_n ?_)
    refine awp_cut _ (awp_weak (by first | ((repeat' (first | exact True.intro | refine ⟨rfl, ?_⟩)); all_goals fail) | fail) (by solve | repeat' constructor) (tu_19 (g3 := g3) (g7 := g7) (g8 := g8) (pp := 1 + om) (hs := b.houses) (cp := true) (cs := X.cons) (x := refB g3 b) (y := .cl g8 24 [intA b.houses, .t (consT true Y.cons)]) (u13 := .t (intsT true o)) (u15 := intA 0) (u16 := .t (intsT true oX)) (u18 := intA 0) (u19 := .t (intsT true oY)) (u21 := intA 0) (u22 := .t (intsT true S)) (u24 := intA 0) (u25 := .t (intsT true S)) (u27 := intA 0) (u28 := .t (intsT true S)) (u30 := intA 0) (u31 := .t (intsT true C)) (u32 := intA 0) (L := D) (bk := bookA true X) (Q := fun _ _ => True) hbX hdX rfl)) ?_
    rintro s h ⟨rfl, rfl⟩
    repeat (first | refine awp_seq ?_ | refine awp_block ?_ | refine then_n ?_)
    refine awp_cut _ (awp_weak (by first | ((repeat' (first | exact True.intro | refine ⟨rfl, ?_⟩)); all_goals fail) | fail) (by solve | repeat' constructor) (tu_20 (g3 := g3) (g7 := g7) (g8 := g8) (pp := 1 + om) (hs := b.houses) (cp := false) (cs := b.cons) (x := .cl g7 24 [intA b.houses, .t (consT true X.cons)]) (y := .cl g8 24 [intA b.houses, .t (consT true Y.cons)]) (u13 := .t (intsT true o)) (u15 := intA 0) (u16 := .t (intsT true oX)) (u18 := intA 0) (u19 := .t (intsT true oY)) (u21 := intA 0) (u22 := .t (intsT true S)) (u24 := intA 0) (u25 := .t (intsT true S)) (u27 := intA 0) (u28 := .t (intsT true S)) (u30 := intA 0) (u31 := .t (intsT true C)) (u32 := intA 0) (u33 := .t (intsT true D)) (u34 := intA 0) (L := V) (bk := bookA true b) (Q := fun _ _ => True) (book_p b hl) hmb rfl)) ?_
    rintro s h ⟨rfl, rfl⟩
    repeat (first | refine awp_seq ?_ | refine awp_block ?_ | refine then_n ?_)
    refine awp_cut _ (awp_weak (by first | ((repeat' (first | exact True.intro | refine ⟨rfl, ?_⟩)); all_goals fail) | fail) (by solve | repeat' constructor) (tu_21 (g3 := g3) (g7 := g7) (g8 := g8) (pp := 1 + om) (hs := b.houses) (cp := true) (cs := X.cons) (x := refB g3 b) (y := .cl g8 24 [intA b.houses, .t (consT true Y.cons)]) (u13 := .t (intsT true o)) (u15 := intA 0) (u16 := .t (intsT true oX)) (u18 := intA 0) (u19 := .t (intsT true oY)) (u21 := intA 0) (u22 := .t (intsT true S)) (u24 := intA 0) (u25 := .t (intsT true S)) (u27 := intA 0) (u28 := .t (intsT true S)) (u30 := intA 0) (u31 := .t (intsT true C)) (u32 := intA 0) (u33 := .t (intsT true D)) (u34 := intA 0) (u35 := .t (intsT true V)) (u36 := intA 0) (L := W) (bk := bookA true X) (Q := fun _ _ => True) hbX hmX rfl)) ?_
    rintro s h ⟨rfl, rfl⟩
    repeat (first | refine awp_seq ?_ | refine awp_block ?_ | refine then_n ?_)
    refine awp_cut _ (awp_weak (by first | ((repeat' (first | exact True.intro | refine ⟨rfl, ?_⟩)); all_goals fail) | fail) (by solve | repeat' constructor) (tu_22 (b := b) (g3 := g3) (C := C) (D := D) (V := V) (W := W) (u13 := .t (intsT true o)) (u16 := .t (intsT true oX)) (u19 := .t (intsT true oY)) (u22 := .t (intsT true S)) (u25 := .t (intsT true S)) (u28 := .t (intsT true S)) q1 q2 q3 q4 rfl)) ?_
    rintro s h ⟨rfl, rfl⟩
    repeat (first | refine awp_seq ?_ | refine awp_block ?_ | refine awp_region_lit rfl ?_ | refine awp_skip ?_ | refine awp_cond_f rfl (by first | rfl | assumption | exact dF (by omega)) ?_ | ((first | (show AWL _ _ _ (⟨_, .assign _, _, _, _, _⟩ :: _) _ _ _; refine awl_pw ?wtq (pv_assign rfl rfl) rfl rfl ?_)); case wtq => first | exact wt_none rfl | exact wt_some' rfl rfl rfl rfl (by first | rfl | assumption | exact dT (by omega) | exact dF (by omega))) | refine awl_nil ?_)
    refine awp_loop (fun m s h => ∃ (j : Nat), (j : Int) ≤ b.houses ∧ m = b.houses.toNat - j ∧ s = [(3, .v (ptrV g3)), (13, .t (intsT true o)), (16, .t (intsT true oX)), (19, .t (intsT true oY)), (22, .t (intsT true S)), (25, .t (intsT true S)), (28, .t (intsT true S)), (31, .t (intsT true C)), (33, .t (intsT true D)), (35, .t (intsT true V)), (37, .t (intsT true W)), (39, intA j)] ∧ h = [refB g3 b]) ?_ ⟨0, by omega, rfl, rfl, rfl⟩ (by first | ((repeat' (first | exact True.intro | refine ⟨rfl, ?_⟩)); all_goals fail) | fail) (by solve | repeat' constructor)
    rintro m s h ⟨j, hj, rfl, rfl, rfl⟩
    by_cases hlt2 : (j : Int) < b.houses
    · have hjH : j < b.houses.toNat := by omega
      repeat (first | refine awp_seq ?_ | refine awp_block ?_ | refine awp_region_lit rfl ?_ | refine awp_skip ?_ | refine then_n ?_ | refine awp_cond_t rfl (by first | rfl | assumption | exact dT (by omega)) ?_ | ((first | (show AWL _ _ _ (⟨_, .move _, _, _, _, _⟩ :: _) _ _ _; refine awl_pw ?wtq (pv_move rfl rfl) rfl rfl ?_) | (show AWL _ _ _ (⟨_, .load _ _, _, _, _, _⟩ :: _) _ _ _; refine awl_lw ?wtq (lv_cl1 T0 rfl rfl rfl (by solve | repeat' constructor) (by first | rfl | assumption)) rfl rfl rfl ?_) | (show AWL _ _ _ (⟨_, .fieldAddr _ _ _, _, _, _, _⟩ :: _) _ _ _; refine awl_pw ?wtq (pv_fa T0 rfl rfl rfl (by simp; rfl)) rfl rfl ?_) | (show AWL _ _ _ (⟨_, .binOp .lss _ _ _ _, _, _, _, _⟩ :: _) _ _ _; refine awl_pw ?wtq (pv_lss rfl rfl rfl) rfl rfl ?_)); case wtq => first | exact wt_none rfl | exact wt_some' rfl rfl rfl rfl (by first | rfl | assumption | exact dT (by omega) | exact dF (by omega))) | refine awl_nil ?_)
      refine awp_cut _ (awp_weak (by first | ((repeat' (first | exact True.intro | refine ⟨rfl, ?_⟩)); all_goals fail) | fail) (by solve | repeat' constructor) (tu_27 (b := b) (g3 := g3) (C := C) (D := D) (V := V) (W := W) (j := j) (u13 := .t (intsT true o)) (u16 := .t (intsT true oX)) (u19 := .t (intsT true oY)) (u22 := .t (intsT true S)) (u25 := .t (intsT true S)) (u28 := .t (intsT true S)) (by omega) (by omega) (by omega) (by omega) (by omega) (by omega) (by omega) (by omega) (b2 _ (getD_mem (by omega))) (b4 _ (getD_mem (by omega))) (decide_eq_false (by have := hXn1 j hjH; omega)) (decide_eq_false (by have := hXn2 j hjH; omega)) rfl)) ?_
      rintro s h ⟨rfl, rfl⟩
      repeat (first | refine awp_region_lit rfl ?_ | refine awp_skip ?_ | refine awp_cond_f rfl (by first | rfl | assumption | exact dF (by omega)) ?_ | ((first | (show AWL _ _ _ (⟨_, .move _, _, _, _, _⟩ :: _) _ _ _; refine awl_pw ?wtq (pv_move rfl rfl) rfl rfl ?_) | (show AWL _ _ _ (⟨_, .assign _, _, _, _, _⟩ :: _) _ _ _; refine awl_pw ?wtq (pv_assign rfl rfl) rfl rfl ?_) | (show AWL _ _ _ (⟨_, .binOp .add _ _ _ _, _, _, _, _⟩ :: _) _ _ _; refine awl_pw ?wtq (pv_add rfl rfl rfl (by first | assumption | exact wr64 (by omega))) rfl rfl ?_)); case wtq => first | exact wt_none rfl | exact wt_some' rfl rfl rfl rfl (by first | rfl | assumption | exact dT (by omega) | exact dF (by omega))) | refine awl_nil ?_)
      refine rnd_n _ _ _ ?_ ⟨j + 1, by omega, rfl, rfl, rfl⟩ (by first | ((repeat' (first | exact True.intro | refine ⟨rfl, ?_⟩)); all_goals fail) | fail) (by solve | repeat' constructor)
      omega
    have dT : decide (sumI o = sumI o) = true := decide_eq_true rfl
    clear hXn1 hXn2 b2 b4 hbX hbY hdb hdX hmb hmX q1 q2 q3 q4 k1 k2 k3 k4 hXv hYv hfX hfY hXh hYh hF hFX hFY hin hpm hom hB hH
    repeat (first | refine awp_seq ?_ | refine awp_region_lit rfl ?_ | refine awp_exit ?_ | refine then_n ?_ | refine awp_cond_f rfl (by first | rfl | assumption | exact dF (by omega)) ?_ | ((first | (show AWL _ _ _ (⟨_, .move _, _, _, _, _⟩ :: _) _ _ _; refine awl_pw ?wtq (pv_move rfl rfl) rfl rfl ?_) | (show AWL _ _ _ (⟨_, .load _ _, _, _, _, _⟩ :: _) _ _ _; refine awl_lw ?wtq (lv_cl1 T0 rfl rfl rfl (by solve | repeat' constructor) (by first | rfl | assumption)) rfl rfl rfl ?_) | (show AWL _ _ _ (⟨_, .fieldAddr _ _ _, _, _, _, _⟩ :: _) _ _ _; refine awl_pw ?wtq (pv_fa T0 rfl rfl rfl (by simp; rfl)) rfl rfl ?_) | (show AWL _ _ _ (⟨_, .binOp .lss _ _ _ _, _, _, _, _⟩ :: _) _ _ _; refine awl_pw ?wtq (pv_lss rfl rfl rfl) rfl rfl ?_)); case wtq => first | exact wt_none rfl | exact wt_some' rfl rfl rfl rfl (by first | rfl | assumption | exact dT (by omega) | exact dF (by omega))) | refine awl_nil ?_)
    refine awl_hw (by first | exact wt_none rfl | exact wt_some' rfl rfl rfl rfl (by first | rfl | assumption | exact dT (by omega) | exact dF (by omega))) (st_call T0 (ht) rfl rfl rfl rfl (by first | exact callee_lit | exact callee_v | exact callee_fn | assumption) (by solve | repeat' constructor) (by first | rfl | assumption) rfl ?_)
    rintro _ rfl
    repeat (first | ((first | (show AWL _ _ _ (⟨_, .move _, _, _, _, _⟩ :: _) _ _ _; refine awl_pw ?wtq (pv_move rfl rfl) rfl rfl ?_)); case wtq => first | exact wt_none rfl | exact wt_some' rfl rfl rfl rfl (by first | rfl | assumption | exact dT (by omega) | exact dF (by omega))))
    refine awl_hw (by first | exact wt_none rfl | exact wt_some' rfl rfl rfl rfl (by first | rfl | assumption | exact dT (by omega) | exact dF (by omega))) (st_call T0 (htX) rfl rfl rfl rfl (by first | exact callee_lit | exact callee_v | exact callee_fn | assumption) (by solve | repeat' constructor) (by first | rfl | assumption) rfl ?_)
    rintro _ rfl
    repeat (first | ((first | (show AWL _ _ _ (⟨_, .move _, _, _, _, _⟩ :: _) _ _ _; refine awl_pw ?wtq (pv_move rfl rfl) rfl rfl ?_) | (show AWL _ _ _ (⟨_, .binOp .eql _ _ _ _, _, _, _, _⟩ :: _) _ _ _; refine awl_pw ?wtq (pv_eql rfl rfl rfl) rfl rfl ?_)); case wtq => first | exact wt_none rfl | exact wt_some' rfl rfl rfl rfl (by first | rfl | assumption | exact dT (by omega) | exact dF (by omega))))
    refine awl_hw (by first | exact wt_none rfl | exact wt_some' rfl rfl rfl rfl (by first | rfl | assumption | exact dT (by omega) | exact dF (by omega))) (st_call T0 (ht) rfl rfl rfl rfl (by first | exact callee_lit | exact callee_v | exact callee_fn | assumption) (by solve | repeat' constructor) (by first | rfl | assumption) rfl ?_)
    rintro _ rfl
    repeat (first | ((first | (show AWL _ _ _ (⟨_, .move _, _, _, _, _⟩ :: _) _ _ _; refine awl_pw ?wtq (pv_move rfl rfl) rfl rfl ?_)); case wtq => first | exact wt_none rfl | exact wt_some' rfl rfl rfl rfl (by first | rfl | assumption | exact dT (by omega) | exact dF (by omega))))
    refine awl_hw (by first | exact wt_none rfl | exact wt_some' rfl rfl rfl rfl (by first | rfl | assumption | exact dT (by omega) | exact dF (by omega))) (st_call T0 (htY) rfl rfl rfl rfl (by first | exact callee_lit | exact callee_v | exact callee_fn | assumption) (by solve | repeat' constructor) (by first | rfl | assumption) rfl ?_)
    rintro _ rfl
    repeat (first | ((first | (show AWL _ _ _ (⟨_, .move _, _, _, _, _⟩ :: _) _ _ _; refine awl_pw ?wtq (pv_move rfl rfl) rfl rfl ?_) | (show AWL _ _ _ (⟨_, .binOp .eql _ _ _ _, _, _, _, _⟩ :: _) _ _ _; refine awl_pw ?wtq (pv_eql rfl rfl rfl) rfl rfl ?_) | (show AWL _ _ _ (⟨_, .pick _ _ _, _, _, _, _⟩ :: _) _ _ _; refine awl_pw ?wtq (pv_pick_t rfl rfl (by first | rfl | assumption | exact dT (by omega) | exact dF (by omega)) rfl) rfl rfl ?_)); case wtq => first | exact wt_none rfl | exact wt_some' rfl rfl rfl rfl (by first | rfl | assumption | exact dT (by omega) | exact dF (by omega))))
    refine awl_hw (by first | exact wt_none rfl | exact wt_some' rfl rfl rfl rfl (by first | rfl | assumption | exact dT (by omega) | exact dF (by omega))) (st_call T0 (ints_q (xs := S) (ys := S) (by omega) (by omega) (decide_eq_true rfl)) rfl rfl rfl rfl (by first | exact callee_lit | exact callee_v | exact callee_fn | assumption) (by solve | repeat' constructor) (by first | rfl | assumption) rfl ?_)
    rintro _ rfl
    repeat (first | ((first | (show AWL _ _ _ (⟨_, .move _, _, _, _, _⟩ :: _) _ _ _; refine awl_pw ?wtq (pv_move rfl rfl) rfl rfl ?_) | (show AWL _ _ _ (⟨_, .pick _ _ _, _, _, _, _⟩ :: _) _ _ _; refine awl_pw ?wtq (pv_pick_t rfl rfl (by first | rfl | assumption | exact dT (by omega) | exact dF (by omega)) rfl) rfl rfl ?_)); case wtq => first | exact wt_none rfl | exact wt_some' rfl rfl rfl rfl (by first | rfl | assumption | exact dT (by omega) | exact dF (by omega))))
    refine awl_hw (by first | exact wt_none rfl | exact wt_some' rfl rfl rfl rfl (by first | rfl | assumption | exact dT (by omega) | exact dF (by omega))) (st_call T0 (ints_q (xs := S) (ys := S) (by omega) (by omega) (decide_eq_true rfl)) rfl rfl rfl rfl (by first | exact callee_lit | exact callee_v | exact callee_fn | assumption) (by solve | repeat' constructor) (by first | rfl | assumption) rfl ?_)
    rintro _ rfl
    repeat (first | ((first | (show AWL _ _ _ (⟨_, .move _, _, _, _, _⟩ :: _) _ _ _; refine awl_pw ?wtq (pv_move rfl rfl) rfl rfl ?_) | (show AWL _ _ _ (⟨_, .pick _ _ _, _, _, _, _⟩ :: _) _ _ _; refine awl_pw ?wtq (pv_pick_t rfl rfl (by first | rfl | assumption | exact dT (by omega) | exact dF (by omega)) rfl) rfl rfl ?_)); case wtq => first | exact wt_none rfl | exact wt_some' rfl rfl rfl rfl (by first | rfl | assumption | exact dT (by omega) | exact dF (by omega))))
    refine awl_hw (by first | exact wt_none rfl | exact wt_some' rfl rfl rfl rfl (by first | rfl | assumption | exact dT (by omega) | exact dF (by omega))) (st_call T0 (hA) rfl rfl rfl rfl (by first | exact callee_lit | exact callee_v | exact callee_fn | assumption) (by solve | repeat' constructor) (by first | rfl | assumption) rfl ?_)
    rintro _ rfl
    repeat (first | refine awp_ret ?_ | ((first | (show AWL _ _ _ (⟨_, .assign _, _, _, _, _⟩ :: _) _ _ _; refine awl_pw ?wtq (pv_assign rfl rfl) rfl rfl ?_) | (show AWL _ _ _ (⟨_, .pick _ _ _, _, _, _, _⟩ :: _) _ _ _; refine awl_pw ?wtq (pv_pick_t rfl rfl (by first | rfl | assumption | exact dT (by omega) | exact dF (by omega)) rfl) rfl rfl ?_)); case wtq => first | exact wt_none rfl | exact wt_some' rfl rfl rfl rfl (by first | rfl | assumption | exact dT (by omega) | exact dF (by omega))) | refine awl_nil ?_)
    exact body_p (.cons rfl .nil) rfl
end Go.Proofs.Ytilhflfbbfeakaa
