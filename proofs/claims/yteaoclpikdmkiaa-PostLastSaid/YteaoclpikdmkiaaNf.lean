/- An order comes: plain, and the drawn regions of come. -/
import Derived.Test.YteaoclpikdmkiaaNe
import Derived.Test.YteaoclpikdmkiaaNq
import Derived.Test.YteaoclpikdmkiaaTz
namespace Go.Proofs.Yteaoclpikdmkiaa
open Go Go.RowKit Go.Tl
set_option linter.unusedVariables false
set_option linter.unusedSimpArgs false
set_option maxRecDepth 100000
set_option maxHeartbeats 4000000
structure FloD where
  left : Nat → Int
  came : List Int
  log : List SaleD
def saleN (p : PostD) (o : OrdD) (i k : Nat) (n : Int) : SaleD := if o.buy = true then ⟨i, k, n, (oAt p k).lim⟩ else ⟨k, i, n, (oAt p k).lim⟩
def takeN (left : Nat → Int) (i k : Nat) (n : Int) : Nat → Int := fun q => if q = k then left k - n else if q = i then left i - n else left q
/-- the sales of an order that comes -/
def matchN (p : PostD) (o : OrdD) (i : Nat) (came : List Int) : Nat → (Nat → Int) × List SaleD → (Nat → Int) × List SaleD
  | 0, s => s
  | f + 1, s => if 0 < s.1 i then
      if restN p s.1 o came came.length < 0 then s
      else matchN p o i came f (takeN s.1 i (restN p s.1 o came came.length).toNat (min (s.1 i) (s.1 (restN p s.1 o came came.length).toNat)), s.2 ++ [saleN p o i (restN p s.1 o came came.length).toNat (min (s.1 i) (s.1 (restN p s.1 o came came.length).toNat))])
    else s
/-- the floor after an order came -/
def comeN (p : PostD) (F : FloD) (i : Nat) : FloD :=
  ⟨(matchN p (oAt p i) i F.came 20 (fun q => if q = i then (oAt p i).num else F.left q, F.log)).1, F.came ++ [(i : Int)], (matchN p (oAt p i) i F.came 20 (fun q => if q = i then (oAt p i).num else F.left q, F.log)).2⟩
theorem rest_mem {p : PostD} {left : Nat → Int} {o : OrdD} {came : List Int} : ∀ k, k ≤ came.length → restN p left o came k = -1 ∨ (restN p left o came k ∈ came ∧ 0 < left (restN p left o came k).toNat)
  | 0, _ => .inl rfl
  | k + 1, hk => by
    simp only [restN]
    split
    · rename_i h
      simp only [Bool.and_eq_true, decide_eq_true_eq] at h
      exact .inr ⟨getD_mem (by omega), h.1⟩
    · exact rest_mem k (by omega)
theorem rest_none {p : PostD} {left : Nat → Int} {o : OrdD} {came : List Int} (h : ∀ x ∈ came, left x.toNat ≤ 0) : ∀ k, k ≤ came.length → restN p left o came k = -1 := fun k hk => by
  rcases rest_mem (p := p) (left := left) (o := o) (came := came) k hk with e | ⟨h1, h2⟩
  · exact e
  · have := h _ h1; omega
attribute [local irreducible] AWP AWL AOp PV LV AWT AWE
section
variable {p : PostD} {cp : Bool} {left left' : Nat → Int} {g2 g4 g5 g8 i k : Nat} {n : Int} {U V u6 x0 x1 x3 : AV} {rest : List Ent}
theorem nf_8 (hi : i < 6) (hk : k < 6) (hkn : k < p.ords.length) (hl : p.ords.length ≤ 6) {ops : Array Oper} (h : regF Try.f80 8 = some ops) :
    AWP Try.prog Try.f80.ntmps none (.region 8 ops true) (cutQ (fun s h => ∃ g8, s = [(8, .v (ptrV g8)), (1, intA i), (2, .v (ptrV g2)), (4, .v (ptrV g4)), (5, .v (ptrV g5)), (6, u6), (7, intA k)] ∧ h = .cl g2 125 (floC cp p left U V) :: .cl g8 75 [intA i, intA k, intA (min (left i) (left k)), intA (oAt p k).lim] :: rest))
      [(1, intA i), (2, .v (ptrV g2)), (4, .v (ptrV g4)), (5, .v (ptrV g5)), (6, u6), (7, intA k)] (.cl g2 125 (floC cp p left U V) :: rest) := by
  cases h
  have r1 : (floC cp p left U V)[1 + i]? = some (intA (left i)) := arrO_at hi
  have r2 : (floC cp p left U V)[1 + k]? = some (intA (left k)) := arrO_at hk
  refine awp_tree T0 [(0, 0), (1, 0), (2, 0), (3, 0), (4, 0), (5, 1), (6, 0), (7, 0), (8, 0), (9, 1), (12, 0), (13, 0), (14, 1), (15, 0), (16, 0), (17, 0), (18, 1), (10, 2), (11, 2), (19, 0), (20, 2), (21, 3)] (.op 0 0 (.op 1 0 (.op 2 0 (.op 3 0 (.op 4 0 (.op 5 1 (.op 6 0 (.op 7 0 (.op 8 0 (.op 9 1 (.op 12 0 (.op 13 0 (.op 14 1 (.op 15 0 (.op 16 0 (.op 17 0 (.op 18 1 (.fork 10 (.fork 11 (.op 19 0 (.op 20 2 (.op 21 3 .stop))) 20 (.op 11 2 (.op 19 0 (.op 21 3 .stop)))) 20 (.op 10 2 (.op 11 2 (.op 19 0 (.op 21 3 .stop)))))))))))))))))))))) [.cl g2 _ _] rfl (by kernel_rfl) (by solve | repeat' constructor) ?_
  refine awt_po rfl (wt_none rfl) (pv_move rfl rfl) rfl rfl ?_
  refine awt_po rfl (wt_none rfl) (pv_move rfl rfl) rfl rfl ?_
  refine awt_po rfl (wt_none rfl) (pv_move rfl rfl) rfl rfl ?_
  refine awt_po rfl (wt_none rfl) (pv_fa T0 rfl rfl rfl (by simp; rfl)) rfl rfl ?_
  refine awt_po rfl (wt_none rfl) (pv_ix_arr T0 rfl rfl rfl rfl (by omega) (by simp; rfl)) rfl rfl ?_
  refine awt_lo rfl (wt_none rfl) (lv_cl1 T0 rfl rfl rfl (by solve | repeat' constructor) (by first | rfl | assumption)) rfl rfl rfl ?_
  refine awt_po rfl (wt_none rfl) (pv_move rfl rfl) rfl rfl ?_
  refine awt_po rfl (wt_none rfl) (pv_fa T0 rfl rfl rfl (by simp; rfl)) rfl rfl ?_
  refine awt_po rfl (wt_none rfl) (pv_ix_arr T0 rfl rfl rfl rfl (by omega) (by simp; rfl)) rfl rfl ?_
  refine awt_lo rfl (wt_none rfl) (lv_cl1 T0 rfl rfl rfl (by solve | repeat' constructor) (by first | rfl | assumption)) rfl rfl rfl ?_
  refine awt_po rfl (wt_none rfl) (pv_fa T0 rfl rfl rfl (by simp; rfl)) rfl rfl ?_
  refine awt_po rfl (wt_none rfl) (pv_fa T0 rfl rfl rfl (by simp; rfl)) rfl rfl ?_
  refine awt_lo rfl (wt_none rfl) (lv_cl1 T0 rfl rfl rfl (by solve | repeat' constructor) (by first | rfl | assumption)) rfl rfl rfl ?_
  refine awt_po rfl (wt_none rfl) (pv_move rfl rfl) rfl rfl ?_
  refine awt_po rfl (wt_none rfl) (pv_ix_t T0 rfl rfl rfl rfl (by omega) (by first | exact (rfl : Int.toNat 0 = 0) | exact Int.toNat_natCast _ | rfl)) rfl rfl ?_
  refine awt_po rfl (wt_none rfl) (pv_fa_elt T0 rfl rfl rfl (by simp; rfl)) rfl rfl ?_
  refine awt_lo rfl (wt_none rfl) (lv_elt_sc T0 rfl rfl rfl rfl) rfl rfl rfl ?_
  refine awt_fork ?_ ?_
  · skip
    refine awt_h (hm := []) rfl (wt_none rfl) (by solve | repeat' constructor) rfl (st_bsl T0 rfl rfl rfl rfl rfl (by solve | repeat' constructor) rfl rfl rfl rfl (by simp only [List.map_cons, List.map_nil, cellsA]; rfl) ?_)
    intro g51
    refine awt_fork ?_ ?_
    · skip
      refine awt_h (hm := _) rfl (wt_none rfl) ?sub rfl (st_acall T0 (min2_o _ (left i) (left k)) rfl rfl rfl rfl (by first | exact callee_lit | exact callee_v | exact callee_fn | assumption) (by solve | repeat' constructor) (by first | rfl | assumption) rfl (by first | ((repeat' (first | exact SubH.refl _ | apply SubH.cons | exact Pick.here | apply Pick.there)); all_goals fail) | fail) (fun b hb => hb) ?_)
      case sub => exact (by solve | repeat' constructor)
      rintro r h' ⟨rfl, rfl⟩
      refine awt_n1 rfl (wt_none rfl) (pv_build T0 rfl rfl rfl (by simp only [Value.cells, List.toList_toArray, List.map_cons, List.map_nil]; rfl) (by first | ((repeat' (first | exact BParts.nil | apply BParts.cons | rfl)); all_goals fail) | fail) (by first | ((repeat' (first | exact FillA.nil | exact Sp.done | apply FillA.cons | apply Sp.put | apply Sp.skip | (simp only [cellsA]; rfl) | rfl)); all_goals fail) | fail)) rfl rfl rfl ?_
      refine awt_h (hm := []) rfl (wt_none rfl) (by solve | repeat' constructor) rfl (st_alloc T0 rfl rfl rfl rfl (by simp only [Value.cells, List.toList_toArray, List.map_cons, List.map_nil]; rfl) ?_)
      intro g8
      refine awt_s (md := fun _ => True) rfl (wt_none rfl) (st_store T0 rfl rfl rfl rfl rfl (by first | assumption | (simp only [cellsA]; rfl)) rfl rfl rfl (by solve | repeat' constructor) (by solve | repeat' constructor) trivial ?_)
      refine awe_end ?_
      exact cut_n ⟨_, rfl, rfl⟩ (by first | ((repeat' (first | exact True.intro | refine ⟨rfl, ?_⟩)); all_goals fail) | fail) (by repeat' (first | exact SubH.refl _ | exact subh_tail _ _ | exact subh_tail2 _ _ _ | exact Pick.here | apply Pick.there | apply SubH.cons))
    · skip
      refine awt_h (hm := []) rfl (wt_none rfl) (by solve | repeat' constructor) rfl (st_alloc T0 rfl rfl rfl rfl (by simp only [Value.cells, List.toList_toArray, List.map_cons, List.map_nil]; rfl) ?_)
      intro g8
      refine awt_h (hm := _) rfl (wt_none rfl) ?sub rfl (st_acall T0 (min2_o _ (left i) (left k)) rfl rfl rfl rfl (by first | exact callee_lit | exact callee_v | exact callee_fn | assumption) (by solve | repeat' constructor) (by first | rfl | assumption) rfl (by first | ((repeat' (first | exact SubH.refl _ | apply SubH.cons | exact Pick.here | apply Pick.there)); all_goals fail) | fail) (fun b hb => hb) ?_)
      case sub => exact (by solve | repeat' constructor)
      rintro r h' ⟨rfl, rfl⟩
      refine awt_n1 rfl (wt_none rfl) (pv_build T0 rfl rfl rfl (by simp only [Value.cells, List.toList_toArray, List.map_cons, List.map_nil]; rfl) (by first | ((repeat' (first | exact BParts.nil | apply BParts.cons | rfl)); all_goals fail) | fail) (by first | ((repeat' (first | exact FillA.nil | exact Sp.done | apply FillA.cons | apply Sp.put | apply Sp.skip | (simp only [cellsA]; rfl) | rfl)); all_goals fail) | fail)) rfl rfl rfl ?_
      refine awt_s (md := fun _ => True) rfl (wt_none rfl) (st_store T0 rfl rfl rfl rfl rfl (by first | assumption | (simp only [cellsA]; rfl)) rfl rfl rfl (by solve | repeat' constructor) (by solve | repeat' constructor) trivial ?_)
      refine awe_end ?_
      exact cut_n ⟨_, rfl, rfl⟩ (by first | ((repeat' (first | exact True.intro | refine ⟨rfl, ?_⟩)); all_goals fail) | fail) (by repeat' (first | exact SubH.refl _ | exact subh_tail _ _ | exact subh_tail2 _ _ _ | exact Pick.here | apply Pick.there | apply SubH.cons))
  · skip
    refine awt_h (hm := []) rfl (wt_none rfl) (by solve | repeat' constructor) rfl (st_alloc T0 rfl rfl rfl rfl (by simp only [Value.cells, List.toList_toArray, List.map_cons, List.map_nil]; rfl) ?_)
    intro g8
    refine awt_h (hm := []) rfl (wt_none rfl) (by solve | repeat' constructor) rfl (st_bsl T0 rfl rfl rfl rfl rfl (by solve | repeat' constructor) rfl rfl rfl rfl (by simp only [List.map_cons, List.map_nil, cellsA]; rfl) ?_)
    intro g51
    refine awt_h (hm := _) rfl (wt_none rfl) ?sub rfl (st_acall T0 (min2_o _ (left i) (left k)) rfl rfl rfl rfl (by first | exact callee_lit | exact callee_v | exact callee_fn | assumption) (by solve | repeat' constructor) (by first | rfl | assumption) rfl (by first | ((repeat' (first | exact SubH.refl _ | apply SubH.cons | exact Pick.here | apply Pick.there)); all_goals fail) | fail) (fun b hb => hb) ?_)
    case sub => exact (by solve | repeat' constructor)
    rintro r h' ⟨rfl, rfl⟩
    refine awt_n1 rfl (wt_none rfl) (pv_build T0 rfl rfl rfl (by simp only [Value.cells, List.toList_toArray, List.map_cons, List.map_nil]; rfl) (by first | ((repeat' (first | exact BParts.nil | apply BParts.cons | rfl)); all_goals fail) | fail) (by first | ((repeat' (first | exact FillA.nil | exact Sp.done | apply FillA.cons | apply Sp.put | apply Sp.skip | (simp only [cellsA]; rfl) | rfl)); all_goals fail) | fail)) rfl rfl rfl ?_
    refine awt_s (md := fun _ => True) rfl (wt_none rfl) (st_store T0 rfl rfl rfl rfl rfl (by first | assumption | (simp only [cellsA]; rfl)) rfl rfl rfl (by solve | repeat' constructor) (by solve | repeat' constructor) trivial ?_)
    refine awe_end ?_
    exact cut_n ⟨_, rfl, rfl⟩ (by first | ((repeat' (first | exact True.intro | refine ⟨rfl, ?_⟩)); all_goals fail) | fail) (by repeat' (first | exact SubH.refl _ | exact subh_tail _ _ | exact subh_tail2 _ _ _ | exact Pick.here | apply Pick.there | apply SubH.cons))
theorem nf_11 (hi : i < 6) (hb : -1000 ≤ left i ∧ left i ≤ 1000) (hn : -1000 ≤ n ∧ n ≤ 1000) (hd : ∀ q, q < 6 → left' q = if q = i then left i - n else left q) {ops : Array Oper} (h : regF Try.f80 11 = some ops) :
    AWP Try.prog Try.f80.ntmps none (.region 11 ops true) (cutQ (fun s h => s = [(1, intA i), (2, .v (ptrV g2)), (4, .v (ptrV g4)), (5, .v (ptrV g5)), (6, u6), (7, intA k), (8, .v (ptrV g8))] ∧ h = .cl g2 125 (floC cp p left' U V) :: .cl g8 75 [x0, x1, intA n, x3] :: rest))
      [(1, intA i), (2, .v (ptrV g2)), (4, .v (ptrV g4)), (5, .v (ptrV g5)), (6, u6), (7, intA k), (8, .v (ptrV g8))] (.cl g2 125 (floC cp p left U V) :: .cl g8 75 [x0, x1, intA n, x3] :: rest) := by
  cases h
  have r1 : (floC cp p left U V)[1 + i]? = some (intA (left i)) := arrO_at hi
  refine awp_tree T0 [(0, 0), (1, 0), (2, 0), (3, 1), (4, 0), (5, 1), (6, 0), (7, 0), (8, 0), (9, 3)] (.op 0 0 (.op 1 0 (.op 2 0 (.op 3 1 (.op 4 0 (.op 5 1 (.op 6 0 (.op 7 0 (.op 8 0 (.op 9 3 .stop)))))))))) [.cl g2 _ _, .cl g8 _ _] rfl (by kernel_rfl) (by solve | repeat' constructor) ?_
  refine awt_po rfl (wt_none rfl) (pv_move rfl rfl) rfl rfl ?_
  refine awt_po rfl (wt_none rfl) (pv_fa T0 rfl rfl rfl (by simp; rfl)) rfl rfl ?_
  refine awt_po rfl (wt_none rfl) (pv_ix_arr T0 rfl rfl rfl rfl (by omega) (by simp; rfl)) rfl rfl ?_
  refine awt_lo rfl (wt_none rfl) (lv_cl1 T0 rfl rfl rfl (by solve | repeat' constructor) (by first | rfl | assumption)) rfl rfl rfl ?_
  refine awt_po rfl (wt_none rfl) (pv_fa T0 rfl rfl rfl (by simp; rfl)) rfl rfl ?_
  refine awt_lo rfl (wt_none rfl) (lv_cl1 T0 rfl rfl rfl (by solve | repeat' constructor) (by first | rfl | assumption)) rfl rfl rfl ?_
  refine awt_po rfl (wt_none rfl) (pv_sub rfl rfl rfl (by first | assumption | exact wr64 (by omega))) rfl rfl ?_
  refine awt_po rfl (wt_none rfl) (pv_fa T0 rfl rfl rfl (by simp; rfl)) rfl rfl ?_
  refine awt_po rfl (wt_none rfl) (pv_ix_arr T0 rfl rfl rfl rfl (by omega) (by simp; rfl)) rfl rfl ?_
  refine awt_s (md := fun _ => True) rfl (wt_none rfl) (st_arrO T0 rfl rfl rfl rfl rfl (by solve | repeat' constructor) hi hd trivial ?_)
  refine awe_end ?_
  exact cut_n ⟨rfl, rfl⟩ (by first | ((repeat' (first | exact True.intro | refine ⟨rfl, ?_⟩)); all_goals fail) | fail) (SubH.refl _)
theorem nf_12 (hk : k < 6) (hb : -1000 ≤ left k ∧ left k ≤ 1000) (hn : -1000 ≤ n ∧ n ≤ 1000) (hd : ∀ q, q < 6 → left' q = if q = k then left k - n else left q) {ops : Array Oper} (h : regF Try.f80 12 = some ops) :
    AWP Try.prog Try.f80.ntmps none (.region 12 ops true) (cutQ (fun s h => s = [(1, intA i), (2, .v (ptrV g2)), (4, .v (ptrV g4)), (5, .v (ptrV g5)), (6, u6), (7, intA k), (8, .v (ptrV g8))] ∧ h = .cl g2 125 (floC cp p left' U V) :: .cl g8 75 [x0, x1, intA n, x3] :: rest))
      [(1, intA i), (2, .v (ptrV g2)), (4, .v (ptrV g4)), (5, .v (ptrV g5)), (6, u6), (7, intA k), (8, .v (ptrV g8))] (.cl g2 125 (floC cp p left U V) :: .cl g8 75 [x0, x1, intA n, x3] :: rest) := by
  cases h
  have r1 : (floC cp p left U V)[1 + k]? = some (intA (left k)) := arrO_at hk
  refine awp_tree T0 [(0, 0), (1, 0), (2, 0), (3, 1), (4, 0), (5, 1), (6, 0), (7, 0), (8, 0), (9, 3)] (.op 0 0 (.op 1 0 (.op 2 0 (.op 3 1 (.op 4 0 (.op 5 1 (.op 6 0 (.op 7 0 (.op 8 0 (.op 9 3 .stop)))))))))) [.cl g2 _ _, .cl g8 _ _] rfl (by kernel_rfl) (by solve | repeat' constructor) ?_
  refine awt_po rfl (wt_none rfl) (pv_move rfl rfl) rfl rfl ?_
  refine awt_po rfl (wt_none rfl) (pv_fa T0 rfl rfl rfl (by simp; rfl)) rfl rfl ?_
  refine awt_po rfl (wt_none rfl) (pv_ix_arr T0 rfl rfl rfl rfl (by omega) (by simp; rfl)) rfl rfl ?_
  refine awt_lo rfl (wt_none rfl) (lv_cl1 T0 rfl rfl rfl (by solve | repeat' constructor) (by first | rfl | assumption)) rfl rfl rfl ?_
  refine awt_po rfl (wt_none rfl) (pv_fa T0 rfl rfl rfl (by simp; rfl)) rfl rfl ?_
  refine awt_lo rfl (wt_none rfl) (lv_cl1 T0 rfl rfl rfl (by solve | repeat' constructor) (by first | rfl | assumption)) rfl rfl rfl ?_
  refine awt_po rfl (wt_none rfl) (pv_sub rfl rfl rfl (by first | assumption | exact wr64 (by omega))) rfl rfl ?_
  refine awt_po rfl (wt_none rfl) (pv_fa T0 rfl rfl rfl (by simp; rfl)) rfl rfl ?_
  refine awt_po rfl (wt_none rfl) (pv_ix_arr T0 rfl rfl rfl rfl (by omega) (by simp; rfl)) rfl rfl ?_
  refine awt_s (md := fun _ => True) rfl (wt_none rfl) (st_arrO T0 rfl rfl rfl rfl rfl (by solve | repeat' constructor) hk hd trivial ?_)
  refine awe_end ?_
  exact cut_n ⟨rfl, rfl⟩ (by first | ((repeat' (first | exact True.intro | refine ⟨rfl, ?_⟩)); all_goals fail) | fail) (SubH.refl _)
end
end Go.Proofs.Yteaoclpikdmkiaa
