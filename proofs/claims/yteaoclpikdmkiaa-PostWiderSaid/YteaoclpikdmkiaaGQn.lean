/- Joined texts: Qg, Qn. -/
import Derived.Test.YteaoclpikdmkiaaGQd
import Derived.Test.YteaoclpikdmkiaaGQb
import Derived.Test.YteaoclpikdmkiaaOt
import Derived.Test.YteaoclpikdmkiaaOa
import Derived.Test.YteaoclpikdmkiaaOj
import Derived.Test.YteaoclpikdmkiaaTlw
import Derived.Test.YteaoclpikdmkiaaTy
import Derived.Test.YteaoclpikdmkiaaTz
import Derived.Test.YteaoclpikdmkiaaTv
section
namespace Go.Proofs.Yteaoclpikdmkiaa
open Go Go.RowKit Go.Tl
set_option linter.unusedVariables false
set_option linter.unusedSimpArgs false
/-- a post one of whose orders has another Minute -/
def setP (p : PostD) (q : Nat) (lo hi : Int) : PostD := ⟨p.ords.set q ⟨(oAt p q).buy, (oAt p q).lim, (oAt p q).num, lo, hi⟩⟩
theorem setP_len (p : PostD) (q : Nat) (lo hi : Int) : (setP p q lo hi).ords.length = p.ords.length := List.length_set
theorem setP_at {p : PostD} {q : Nat} {lo hi : Int} (h : q < p.ords.length) (i : Nat) : oAt (setP p q lo hi) i = if i = q then ⟨(oAt p q).buy, (oAt p q).lim, (oAt p q).num, lo, hi⟩ else oAt p i := by
  show (p.ords.set q ⟨(oAt p q).buy, (oAt p q).lim, (oAt p q).num, lo, hi⟩).getD i default = _
  simp only [List.getD_eq_getElem?_getD, List.getElem?_set]
  by_cases e : q = i
  · subst e; rw [if_pos rfl, if_pos h, if_pos rfl]; rfl
  · rw [if_neg e, if_neg (fun h => e h.symm)]
theorem setP_ok {p : PostD} (hv : VPost p) {q : Nat} {lo hi : Int} (h : q < p.ords.length) (hb : 0 ≤ lo ∧ lo ≤ hi ∧ hi ≤ 30) : faultN (setP p q lo hi) = 0 := by
  refine valid_of hv (setP_len _ _ _ _) fun i hi' => ?_
  have h1 := hv.lim i hi'
  have h2 := hv.num i hi'
  have h3 := hv.min i hi'
  rw [setP_at h]
  by_cases e : i = q
  · subst e; rw [if_pos rfl]; exact ⟨h1, h2, hb.1, hb.2.1, hb.2.2⟩
  · rw [if_neg e]; exact ⟨h1, h2, h3.1, h3.2.1, h3.2.2⟩
theorem setP_same {p : PostD} {q : Nat} {lo hi : Int} (h : q < p.ords.length) (i : Nat) : (oAt (setP p q lo hi) i).buy = (oAt p i).buy ∧ (oAt (setP p q lo hi) i).lim = (oAt p i).lim ∧ (oAt (setP p q lo hi) i).num = (oAt p i).num := by
  rw [setP_at h]
  by_cases e : i = q
  · subst e; rw [if_pos rfl]; exact ⟨rfl, rfl, rfl⟩
  · rw [if_neg e]; exact ⟨rfl, rfl, rfl⟩
/-- x has all truths of p, and the same sales in them -/
structure WideP (p x : PostD) : Prop where
  len : x.ords.length = p.ords.length
  truth : ∀ t, truthB p t = true → truthB x t = true
  play : ∀ t, playT x t = playT p t
  num : ∀ i, (oAt x i).num = (oAt p i).num
theorem setP_wide {p : PostD} {q : Nat} {lo hi : Int} (h : q < p.ords.length) (h1 : lo ≤ (oAt p q).lo) (h2 : (oAt p q).hi ≤ hi) : WideP p (setP p q lo hi) := by
  refine ⟨setP_len _ _ _ _, fun t ht => ?_, fun t => same_play fun i _ => setP_same h i, fun i => (setP_same h i).2.2⟩
  obtain ⟨k1, k2⟩ := truth_iff.1 ht
  refine truth_iff.2 ⟨by rw [setP_len]; exact k1, fun k hk => ?_⟩
  have h3 : (oAt p k).lo ≤ t.getD k 0 ∧ t.getD k 0 ≤ (oAt p k).hi := inB_iff.1 (k2 k hk)
  refine inB_iff.2 ?_
  show (oAt (setP p q lo hi) k).lo ≤ _ ∧ _ ≤ (oAt (setP p q lo hi) k).hi
  rw [setP_at h]
  by_cases e : k = q
  · subst e; rw [if_pos rfl]
    show lo ≤ _ ∧ _ ≤ hi
    omega
  · rw [if_neg e]; exact h3
theorem wide_leaf {p x : PostD} (hv : VPost p) (hx : VPost x) (hw : WideP p x) {y : Leaf} (hy : y ∈ leaves p) : ∃ z ∈ leaves x, z.1 = y.1 := by
  obtain ⟨h1, h2⟩ := leaves_sound hv hy
  obtain ⟨z, hz, e⟩ := leaves_complete hx (hw.truth _ h1)
  exact ⟨z, hz, by rw [e, h2, hw.play]⟩
theorem wide_bnd {p x : PostD} (hv : VPost p) (hx : VPost x) (hw : WideP p x) {f : Leaf → Int} (hf : ∀ a b : Leaf, a.1 = b.1 → f a = f b) : (bndL f (leaves x)).2.1 ≤ (bndL f (leaves p)).2.1 ∧ (bndL f (leaves p)).2.2 ≤ (bndL f (leaves x)).2.2 := by
  have h1 := (bnd_isB f (leaves p) (leaves_ne hv)).2
  have h2 := (bnd_isB f (leaves x) (leaves_ne hx)).2
  have key : ∀ v, (∃ y ∈ leaves p, f y = v) → ∃ z ∈ leaves x, f z = v := fun v ⟨y, hy, e⟩ => by
    obtain ⟨z, hz, e2⟩ := wide_leaf hv hx hw hy
    exact ⟨z, hz, by rw [hf z y e2, e]⟩
  exact ⟨(h2.bd _ (key _ h1.lo)).1, (h2.bd _ (key _ h1.hi)).2⟩
theorem wide_can {p x : PostD} (hv : VPost p) (hx : VPost x) (hw : WideP p x) {l : List SaleD} {s : List Int} (h : canI p l s = true) : canI x l s = true := by
  obtain ⟨y, hy, e⟩ := List.any_eq_true.1 h
  obtain ⟨z, hz, e2⟩ := wide_leaf hv hx hw hy
  exact List.any_eq_true.2 ⟨z, hz, by rw [e2]; exact e⟩
theorem wide_min {p x : PostD} (hv : VPost p) (hx : VPost x) (hw : WideP p x) {l : List SaleD} {s t : List Int} (h1 : MinR p l s) (h2 : MinR x l t) : t.length ≤ s.length := by
  have := h2.min s h1.ext (wide_can hv hx hw h1.en)
  exact Nat.not_lt.1 fun h => this (.inl h)
theorem filter_le {α : Type} {q r : α → Bool} : ∀ {l : List α}, (∀ x ∈ l, q x = true → r x = true) → (l.filter q).length ≤ (l.filter r).length
  | [], _ => Nat.le_refl _
  | a :: l, h => by
    have ih := filter_le (l := l) fun x hx => h x (List.mem_cons_of_mem _ hx)
    have ha := h a List.mem_cons_self
    simp only [List.filter_cons]
    by_cases c : q a = true
    · rw [if_pos c, if_pos (ha c)]; simpa using ih
    · rw [if_neg c]
      split
      · exact Nat.le_succ_of_le ih
      · exact ih
/-- what is surely filled of an order is at most its number -/
theorem bnd_num {p : PostD} (hv : VPost p) {i : Nat} (hi : i < p.ords.length) : (bndL (filF i) (leaves p)).2.1 ≤ (oAt p i).num := by
  obtain ⟨x, hx, e⟩ := (bnd_isB (filF i) (leaves p) (leaves_ne hv)).2.lo
  obtain ⟨h1, h2⟩ := leaves_sound hv hx
  rw [← e]
  show (filP x.1 i x.1.length).1 ≤ _
  rw [h2, fil_eq (fun s hs => sok_ne (play_sok hv h1 s hs)) i _ (Nat.le_refl _)]
  exact ((play_fair hv h1).le i hi).2
theorem wide_sure {p x : PostD} (hv : VPost p) (hx : VPost x) (hw : WideP p x) {rs rs' : List (Int × Int)} (h1 : ∀ i, i < p.ords.length → rs.getD i default = (bndL (filF i) (leaves p)).2) (h2 : ∀ i, i < p.ords.length → rs'.getD i default = (bndL (filF i) (leaves x)).2) : (sureL x rs' x.ords.length).length ≤ (sureL p rs p.ords.length).length := by
  rw [hw.len]
  refine filter_le fun i hi hq => ?_
  have hi := List.mem_range.1 hi
  have hq : (rs'.getD i default).1 = (oAt x i).num := of_decide_eq_true hq
  rw [h2 i hi, hw.num] at hq
  refine decide_eq_true ?_
  rw [h1 i hi]
  have h3 := (wide_bnd hv hx hw (f := filF i) (fun a b e => by unfold filF; rw [e])).1
  have h4 := bnd_num hv hi
  omega
end Go.Proofs.Yteaoclpikdmkiaa
end
section
namespace Go.Proofs.Yteaoclpikdmkiaa
open Go Go.RowKit Go.Tl
set_option linter.unusedVariables false
set_option linter.unusedSimpArgs false
set_option maxRecDepth 100000
set_option maxHeartbeats 4000000
attribute [local irreducible] AWP AWL AOp PV LV AWT AWE
section
variable {g4 g9 ga k n q : Nat} {p : PostD} {c : Nat} {rows rows' : List (List AV)} {u1 u3 : AV} {rs ms cs ds : List (Int × Int)} {w v d1 d2 lo hi lo' hi' : Int} {x y : Ent}
theorem qn_4 (hw : w.tmod (n : Int) = (q : Int)) (hq : q < n) (hn : n ≤ 1000) (hw0 : 0 ≤ w ∧ w ≤ 255) {ops : Array Oper} (h : regF Try.f13 4 = some ops) :
    AWP Try.prog Try.f13.ntmps none (.region 4 ops true) (cutQ (fun s h => s = [(10, .rp (.slice (some ⟨ga, 0, none⟩) n c) 5 q 0), (1, u1), (3, u3), (4, .v (ptrV g4)), (9, .v (ptrV g9))] ∧ h = [x, .cl g9 24 [.v (.slice (some ⟨ga, 0, none⟩) n c)], .rw (.slice (some ⟨ga, 0, none⟩) n c) 58 5 rows]))
      [(1, u1), (2, .v (.int .u8 w)), (3, u3), (4, .v (ptrV g4)), (9, .v (ptrV g9))] [x, .cl g9 24 [.v (.slice (some ⟨ga, 0, none⟩) n c)], .rw (.slice (some ⟨ga, 0, none⟩) n c) 58 5 rows] := by
  cases h
  refine awp_tree T0 [(0, 0), (1, 1), (2, 0), (3, 0), (4, 0), (5, 1), (6, 0), (7, 0), (8, 0), (9, 0)] (.op 0 0 (.op 1 1 (.op 2 0 (.op 3 0 (.op 4 0 (.op 5 1 (.op 6 0 (.op 7 0 (.op 8 0 (.op 9 0 .stop)))))))))) [.cl g9 _ _] rfl (by kernel_rfl) (by solve | repeat' constructor) ?_
  refine awt_po rfl (wt_none rfl) (pv_fa T0 rfl rfl rfl (by simp; rfl)) rfl rfl ?_
  refine awt_lo rfl (wt_none rfl) (lv_cl1 T0 rfl rfl rfl (by solve | repeat' constructor) (by first | rfl | assumption)) rfl rfl rfl ?_
  refine awt_po rfl (wt_none rfl) (pv_move rfl rfl) rfl rfl ?_
  refine awt_po rfl (wt_none rfl) (pv_convert rfl rfl Try.underlying5 Try.underlying3 (by first | assumption | exact wr64 (by omega))) rfl rfl ?_
  refine awt_po rfl (wt_none rfl) (pv_fa T0 rfl rfl rfl (by simp; rfl)) rfl rfl ?_
  refine awt_lo rfl (wt_none rfl) (lv_cl1 T0 rfl rfl rfl (by solve | repeat' constructor) (by first | rfl | assumption)) rfl rfl rfl ?_
  refine awt_po rfl (wt_none rfl) (pv_len_v T0 rfl rfl rfl) rfl rfl ?_
  refine awt_po rfl (wt_none rfl) (pv_rem rfl rfl rfl (by omega) (by first | assumption | rfl)) rfl rfl ?_
  refine awt_po rfl (wt_none rfl) (pv_ix_own T0 rfl rfl rfl rfl (by omega) (by first | exact (rfl : Int.toNat 0 = 0) | exact Int.toNat_natCast _ | rfl)) rfl rfl ?_
  refine awt_po rfl (wt_none rfl) (pv_assign rfl rfl) rfl rfl ?_
  refine awt_end ?_
  exact cut_n ⟨rfl, rfl⟩ (by first | ((repeat' (first | exact True.intro | refine ⟨rfl, ?_⟩)); all_goals fail) | fail) (by solve | repeat' constructor)
theorem qn_5 (hq : q < n) (hn : n ≤ 1000) (hv0 : 0 ≤ v ∧ v ≤ 255) (hrl : rows.length = n) (r1 : (rows.getD q [])[3]? = some (intA lo)) (r2 : (rows.getD q [])[4]? = some (intA hi)) (hb : 0 ≤ lo ∧ lo ≤ 30 ∧ 0 ≤ hi ∧ hi ≤ 30)
    (e1 : v.tmod 4 = d1) (e2 : (v.tdiv 4).tmod 4 = d2) (hd : 0 ≤ d1 ∧ d1 ≤ 3 ∧ 0 ≤ d2 ∧ d2 ≤ 3) (hq4 : IntKind.i64.wrap (v.tdiv 4) = v.tdiv 4) (hs : rows.set q (spA (rows.getD q []) 3 [intA (max 0 (lo - d1)), intA (min 30 (hi + d2))]) = rows') {ops : Array Oper} (h : regF Try.f13 5 = some ops) :
    AWP Try.prog Try.f13.ntmps none (.region 5 ops true) (cutQ (fun s h => s = [(1, u1), (4, .v (ptrV g4)), (9, .v (ptrV g9))] ∧ h = [x, y, .rw (.slice (some ⟨ga, 0, none⟩) n c) 58 5 rows']))
      [(10, .rp (.slice (some ⟨ga, 0, none⟩) n c) 5 q 0), (1, u1), (3, .v (.int .u8 v)), (4, .v (ptrV g4)), (9, .v (ptrV g9))] [x, y, .rw (.slice (some ⟨ga, 0, none⟩) n c) 58 5 rows] := by
  cases h
  refine awp_treeN T0 [(0, 0), (1, 0), (2, 0), (3, 0), (4, 0), (5, 1), (6, 0), (7, 0), (8, 0), (9, 0), (10, 0), (11, 0), (12, 0), (13, 0), (14, 0), (15, 1), (16, 0), (17, 0), (18, 0), (19, 0), (20, 0), (21, 0), (22, 0), (23, 0), (24, 0), (25, 3)] (.op 0 0 (.op 1 0 (.op 2 0 (.op 3 0 (.op 4 0 (.op 5 1 (.op 6 0 (.op 7 0 (.op 8 0 (.op 9 0 (.op 10 0 (.op 11 0 (.op 12 0 (.op 13 0 (.op 14 0 (.op 15 1 (.op 16 0 (.op 17 0 (.op 18 0 (.op 19 0 (.op 20 0 (.op 21 0 (.op 22 0 (.op 23 0 (.op 24 0 (.op 25 3 .stop)))))))))))))))))))))))))) _ rfl (by kernel_rfl) (SubH.refl _) ?_
  refine awt_po rfl (wt_none rfl) (pv_move rfl rfl) rfl rfl ?_
  refine awt_po rfl (wt_none rfl) (pv_move rfl rfl) rfl rfl ?_
  refine awt_po rfl (wt_none rfl) (pv_nilCheck_rp rfl rfl) rfl rfl ?_
  refine awt_po rfl (wt_none rfl) (pv_fa_rp T0 rfl rfl rfl (by simp; rfl)) rfl rfl ?_
  refine awt_po rfl (wt_none rfl) (pv_fa_rp T0 rfl rfl rfl (by simp; rfl)) rfl rfl ?_
  refine awt_lo rfl (wt_none rfl) (lv_rp T0 rfl rfl rfl (by solve | repeat' constructor) (by first | omega | (simp; omega)) (by omega) (by first | assumption | rfl)) rfl rfl rfl ?_
  refine awt_po rfl (wt_none rfl) (pv_move rfl rfl) rfl rfl ?_
  refine awt_po rfl (wt_none rfl) (pv_convert rfl rfl Try.underlying5 Try.underlying3 (by first | assumption | exact wr64 (by omega))) rfl rfl ?_
  refine awt_po rfl (wt_none rfl) (pv_rem rfl rfl rfl (by omega) (by first | assumption | rfl)) rfl rfl ?_
  refine awt_po rfl (wt_none rfl) (pv_sub rfl rfl rfl (by first | assumption | exact wr64 (by omega))) rfl rfl ?_
  refine awt_po rfl (wt_none rfl) (pv_max2 rfl rfl rfl) rfl rfl ?_
  refine awt_po rfl (wt_none rfl) (pv_move rfl rfl) rfl rfl ?_
  refine awt_po rfl (wt_none rfl) (pv_nilCheck_rp rfl rfl) rfl rfl ?_
  refine awt_po rfl (wt_none rfl) (pv_fa_rp T0 rfl rfl rfl (by simp; rfl)) rfl rfl ?_
  refine awt_po rfl (wt_none rfl) (pv_fa_rp T0 rfl rfl rfl (by simp; rfl)) rfl rfl ?_
  refine awt_lo rfl (wt_none rfl) (lv_rp T0 rfl rfl rfl (by solve | repeat' constructor) (by first | omega | (simp; omega)) (by omega) (by first | assumption | rfl)) rfl rfl rfl ?_
  refine awt_po rfl (wt_none rfl) (pv_move rfl rfl) rfl rfl ?_
  refine awt_po rfl (wt_none rfl) (pv_convert rfl rfl Try.underlying5 Try.underlying3 (by first | assumption | exact wr64 (by omega))) rfl rfl ?_
  refine awt_po rfl (wt_none rfl) (pv_quo rfl rfl rfl (by omega) (by first | assumption | exact wr64 (by omega))) rfl rfl ?_
  refine awt_po rfl (wt_none rfl) (pv_rem rfl rfl rfl (by omega) (by first | assumption | rfl)) rfl rfl ?_
  refine awt_po rfl (wt_none rfl) (pv_add rfl rfl rfl (by first | assumption | exact wr64 (by omega))) rfl rfl ?_
  refine awt_po rfl (wt_none rfl) (pv_min2 rfl rfl rfl) rfl rfl ?_
  refine awt_po rfl (wt_none rfl) (pv_build T0 rfl rfl rfl (by simp only [Value.cells, List.toList_toArray, List.map_cons, List.map_nil]; rfl) (by first | ((repeat' (first | exact BParts.nil | apply BParts.cons | rfl)); all_goals fail) | fail) (by first | ((repeat' (first | exact FillA.nil | exact Sp.done | apply FillA.cons | apply Sp.put | apply Sp.skip | (simp only [cellsA]; rfl) | rfl)); all_goals fail) | fail)) rfl rfl ?_
  refine awt_po rfl (wt_none rfl) (pv_nilCheck_rp rfl rfl) rfl rfl ?_
  refine awt_po rfl (wt_none rfl) (pv_fa_rp T0 rfl rfl rfl (by simp; rfl)) rfl rfl ?_
  refine awt_s (md := fun _ => True) rfl (wt_none rfl) (aop_store_rp T0 rfl rfl rfl rfl rfl rfl rfl rfl (by solve | repeat' constructor) (by first | omega | (simp; omega)) (by omega) rfl trivial ?_)
  refine awe_end ?_
  simp only [cellsA]
  rw [hs]
  exact cut_n ⟨rfl, rfl⟩ (by first | ((repeat' (first | exact True.intro | refine ⟨rfl, ?_⟩)); all_goals fail) | fail) (by solve | repeat' constructor)
theorem qn_17 (h1 : k < rs.length) (h2 : k < ms.length) (h3 : k < cs.length) (h4 : k < ds.length) (hl : rs.length ≤ 1000 ∧ ms.length ≤ 1000 ∧ cs.length ≤ 1000 ∧ ds.length ≤ 1000)
    (e1 : decide ((rs.getD k default).1 < (cs.getD k default).1) = false) (e2 : decide ((cs.getD k default).2 < (rs.getD k default).2) = false) (e3 : decide ((ms.getD k default).1 < (ds.getD k default).1) = false) (e4 : decide ((ds.getD k default).2 < (ms.getD k default).2) = false) {ops : Array Oper} (h : regF Try.f13 17 = some ops) :
    AWP Try.prog Try.f13.ntmps none (.region 17 ops true) (cutQ (fun s h => s = [(11, .t (rngsT true rs)), (12, .t (rngsT true ms)), (14, .t (rngsT true cs)), (15, .t (rngsT true ds)), (25, intA k), (228, boolA false)] ∧ h = []))
      [(11, .t (rngsT true rs)), (12, .t (rngsT true ms)), (14, .t (rngsT true cs)), (15, .t (rngsT true ds)), (25, intA k)] [] := by
  cases h
  refine awp_treeN T0 [(0, 0), (1, 0), (2, 0), (3, 0), (4, 1), (5, 0), (6, 0), (7, 0), (8, 0), (9, 1), (10, 0), (11, 0), (12, 0), (13, 0), (14, 0), (15, 0), (16, 1), (17, 0), (18, 0), (19, 0), (20, 0), (21, 1), (22, 0), (23, 0), (24, 0), (25, 0), (26, 0), (27, 0), (28, 0), (29, 1), (30, 0), (31, 0), (32, 0), (33, 0), (34, 1), (35, 0), (36, 0), (37, 0), (38, 0), (39, 0), (40, 0), (41, 0), (42, 1), (43, 0), (44, 0), (45, 0), (46, 0), (47, 1), (48, 0), (49, 0)] (.op 0 0 (.op 1 0 (.op 2 0 (.op 3 0 (.op 4 1 (.op 5 0 (.op 6 0 (.op 7 0 (.op 8 0 (.op 9 1 (.op 10 0 (.op 11 0 (.op 12 0 (.op 13 0 (.op 14 0 (.op 15 0 (.op 16 1 (.op 17 0 (.op 18 0 (.op 19 0 (.op 20 0 (.op 21 1 (.op 22 0 (.op 23 0 (.op 24 0 (.op 25 0 (.op 26 0 (.op 27 0 (.op 28 0 (.op 29 1 (.op 30 0 (.op 31 0 (.op 32 0 (.op 33 0 (.op 34 1 (.op 35 0 (.op 36 0 (.op 37 0 (.op 38 0 (.op 39 0 (.op 40 0 (.op 41 0 (.op 42 1 (.op 43 0 (.op 44 0 (.op 45 0 (.op 46 0 (.op 47 1 (.op 48 0 (.op 49 0 .stop)))))))))))))))))))))))))))))))))))))))))))))))))) _ rfl (by kernel_rfl) (SubH.refl _) ?_
  refine awt_po rfl (wt_none rfl) (pv_move rfl rfl) rfl rfl ?_
  refine awt_po rfl (wt_none rfl) (pv_move rfl rfl) rfl rfl ?_
  refine awt_po rfl (wt_none rfl) (pv_ix_t T0 rfl rfl rfl rfl (by omega) (by first | exact (rfl : Int.toNat 0 = 0) | exact Int.toNat_natCast _ | rfl)) rfl rfl ?_
  refine awt_po rfl (wt_none rfl) (pv_fa_elt T0 rfl rfl rfl (by simp; rfl)) rfl rfl ?_
  refine awt_lo rfl (wt_none rfl) (lv_elt_sc T0 rfl rfl rfl rfl) rfl rfl rfl ?_
  refine awt_po rfl (wt_none rfl) (pv_move rfl rfl) rfl rfl ?_
  refine awt_po rfl (wt_none rfl) (pv_move rfl rfl) rfl rfl ?_
  refine awt_po rfl (wt_none rfl) (pv_ix_t T0 rfl rfl rfl rfl (by omega) (by first | exact (rfl : Int.toNat 0 = 0) | exact Int.toNat_natCast _ | rfl)) rfl rfl ?_
  refine awt_po rfl (wt_none rfl) (pv_fa_elt T0 rfl rfl rfl (by simp; rfl)) rfl rfl ?_
  refine awt_lo rfl (wt_none rfl) (lv_elt_sc T0 rfl rfl rfl rfl) rfl rfl rfl ?_
  refine awt_po rfl (wt_none rfl) (pv_gtr rfl rfl rfl) rfl rfl ?_
  refine awt_po rfl (wt_none rfl) (pv_move rfl rfl) rfl rfl ?_
  refine awt_po rfl (wt_some' rfl rfl rfl rfl (by first | rfl | assumption | exact dT (by omega) | exact dF (by omega))) (pv_move rfl rfl) rfl rfl ?_
  refine awt_po rfl (wt_some' rfl rfl rfl rfl (by first | rfl | assumption | exact dT (by omega) | exact dF (by omega))) (pv_move rfl rfl) rfl rfl ?_
  refine awt_po rfl (wt_some' rfl rfl rfl rfl (by first | rfl | assumption | exact dT (by omega) | exact dF (by omega))) (pv_ix_t T0 rfl rfl rfl rfl (by omega) (by first | exact (rfl : Int.toNat 0 = 0) | exact Int.toNat_natCast _ | rfl)) rfl rfl ?_
  refine awt_po rfl (wt_some' rfl rfl rfl rfl (by first | rfl | assumption | exact dT (by omega) | exact dF (by omega))) (pv_fa_elt T0 rfl rfl rfl (by simp; rfl)) rfl rfl ?_
  refine awt_lo rfl (wt_some' rfl rfl rfl rfl (by first | rfl | assumption | exact dT (by omega) | exact dF (by omega))) (lv_elt_sc T0 rfl rfl rfl rfl) rfl rfl rfl ?_
  refine awt_po rfl (wt_some' rfl rfl rfl rfl (by first | rfl | assumption | exact dT (by omega) | exact dF (by omega))) (pv_move rfl rfl) rfl rfl ?_
  refine awt_po rfl (wt_some' rfl rfl rfl rfl (by first | rfl | assumption | exact dT (by omega) | exact dF (by omega))) (pv_move rfl rfl) rfl rfl ?_
  refine awt_po rfl (wt_some' rfl rfl rfl rfl (by first | rfl | assumption | exact dT (by omega) | exact dF (by omega))) (pv_ix_t T0 rfl rfl rfl rfl (by omega) (by first | exact (rfl : Int.toNat 0 = 0) | exact Int.toNat_natCast _ | rfl)) rfl rfl ?_
  refine awt_po rfl (wt_some' rfl rfl rfl rfl (by first | rfl | assumption | exact dT (by omega) | exact dF (by omega))) (pv_fa_elt T0 rfl rfl rfl (by simp; rfl)) rfl rfl ?_
  refine awt_lo rfl (wt_some' rfl rfl rfl rfl (by first | rfl | assumption | exact dT (by omega) | exact dF (by omega))) (lv_elt_sc T0 rfl rfl rfl rfl) rfl rfl rfl ?_
  refine awt_po rfl (wt_some' rfl rfl rfl rfl (by first | rfl | assumption | exact dT (by omega) | exact dF (by omega))) (pv_lss rfl rfl rfl) rfl rfl ?_
  refine awt_po rfl (wt_none rfl) (pv_pick_f rfl rfl (by first | rfl | assumption | exact dT (by omega) | exact dF (by omega)) rfl) rfl rfl ?_
  refine awt_po rfl (wt_none rfl) (pv_move rfl rfl) rfl rfl ?_
  refine awt_po rfl (wt_some' rfl rfl rfl rfl (by first | rfl | assumption | exact dT (by omega) | exact dF (by omega))) (pv_move rfl rfl) rfl rfl ?_
  refine awt_po rfl (wt_some' rfl rfl rfl rfl (by first | rfl | assumption | exact dT (by omega) | exact dF (by omega))) (pv_move rfl rfl) rfl rfl ?_
  refine awt_po rfl (wt_some' rfl rfl rfl rfl (by first | rfl | assumption | exact dT (by omega) | exact dF (by omega))) (pv_ix_t T0 rfl rfl rfl rfl (by omega) (by first | exact (rfl : Int.toNat 0 = 0) | exact Int.toNat_natCast _ | rfl)) rfl rfl ?_
  refine awt_po rfl (wt_some' rfl rfl rfl rfl (by first | rfl | assumption | exact dT (by omega) | exact dF (by omega))) (pv_fa_elt T0 rfl rfl rfl (by simp; rfl)) rfl rfl ?_
  refine awt_lo rfl (wt_some' rfl rfl rfl rfl (by first | rfl | assumption | exact dT (by omega) | exact dF (by omega))) (lv_elt_sc T0 rfl rfl rfl rfl) rfl rfl rfl ?_
  refine awt_po rfl (wt_some' rfl rfl rfl rfl (by first | rfl | assumption | exact dT (by omega) | exact dF (by omega))) (pv_move rfl rfl) rfl rfl ?_
  refine awt_po rfl (wt_some' rfl rfl rfl rfl (by first | rfl | assumption | exact dT (by omega) | exact dF (by omega))) (pv_move rfl rfl) rfl rfl ?_
  refine awt_po rfl (wt_some' rfl rfl rfl rfl (by first | rfl | assumption | exact dT (by omega) | exact dF (by omega))) (pv_ix_t T0 rfl rfl rfl rfl (by omega) (by first | exact (rfl : Int.toNat 0 = 0) | exact Int.toNat_natCast _ | rfl)) rfl rfl ?_
  refine awt_po rfl (wt_some' rfl rfl rfl rfl (by first | rfl | assumption | exact dT (by omega) | exact dF (by omega))) (pv_fa_elt T0 rfl rfl rfl (by simp; rfl)) rfl rfl ?_
  refine awt_lo rfl (wt_some' rfl rfl rfl rfl (by first | rfl | assumption | exact dT (by omega) | exact dF (by omega))) (lv_elt_sc T0 rfl rfl rfl rfl) rfl rfl rfl ?_
  refine awt_po rfl (wt_some' rfl rfl rfl rfl (by first | rfl | assumption | exact dT (by omega) | exact dF (by omega))) (pv_gtr rfl rfl rfl) rfl rfl ?_
  refine awt_po rfl (wt_none rfl) (pv_pick_f rfl rfl (by first | rfl | assumption | exact dT (by omega) | exact dF (by omega)) rfl) rfl rfl ?_
  refine awt_po rfl (wt_none rfl) (pv_move rfl rfl) rfl rfl ?_
  refine awt_po rfl (wt_some' rfl rfl rfl rfl (by first | rfl | assumption | exact dT (by omega) | exact dF (by omega))) (pv_move rfl rfl) rfl rfl ?_
  refine awt_po rfl (wt_some' rfl rfl rfl rfl (by first | rfl | assumption | exact dT (by omega) | exact dF (by omega))) (pv_move rfl rfl) rfl rfl ?_
  refine awt_po rfl (wt_some' rfl rfl rfl rfl (by first | rfl | assumption | exact dT (by omega) | exact dF (by omega))) (pv_ix_t T0 rfl rfl rfl rfl (by omega) (by first | exact (rfl : Int.toNat 0 = 0) | exact Int.toNat_natCast _ | rfl)) rfl rfl ?_
  refine awt_po rfl (wt_some' rfl rfl rfl rfl (by first | rfl | assumption | exact dT (by omega) | exact dF (by omega))) (pv_fa_elt T0 rfl rfl rfl (by simp; rfl)) rfl rfl ?_
  refine awt_lo rfl (wt_some' rfl rfl rfl rfl (by first | rfl | assumption | exact dT (by omega) | exact dF (by omega))) (lv_elt_sc T0 rfl rfl rfl rfl) rfl rfl rfl ?_
  refine awt_po rfl (wt_some' rfl rfl rfl rfl (by first | rfl | assumption | exact dT (by omega) | exact dF (by omega))) (pv_move rfl rfl) rfl rfl ?_
  refine awt_po rfl (wt_some' rfl rfl rfl rfl (by first | rfl | assumption | exact dT (by omega) | exact dF (by omega))) (pv_move rfl rfl) rfl rfl ?_
  refine awt_po rfl (wt_some' rfl rfl rfl rfl (by first | rfl | assumption | exact dT (by omega) | exact dF (by omega))) (pv_ix_t T0 rfl rfl rfl rfl (by omega) (by first | exact (rfl : Int.toNat 0 = 0) | exact Int.toNat_natCast _ | rfl)) rfl rfl ?_
  refine awt_po rfl (wt_some' rfl rfl rfl rfl (by first | rfl | assumption | exact dT (by omega) | exact dF (by omega))) (pv_fa_elt T0 rfl rfl rfl (by simp; rfl)) rfl rfl ?_
  refine awt_lo rfl (wt_some' rfl rfl rfl rfl (by first | rfl | assumption | exact dT (by omega) | exact dF (by omega))) (lv_elt_sc T0 rfl rfl rfl rfl) rfl rfl rfl ?_
  refine awt_po rfl (wt_some' rfl rfl rfl rfl (by first | rfl | assumption | exact dT (by omega) | exact dF (by omega))) (pv_lss rfl rfl rfl) rfl rfl ?_
  refine awt_po rfl (wt_none rfl) (pv_pick_f rfl rfl (by first | rfl | assumption | exact dT (by omega) | exact dF (by omega)) rfl) rfl rfl ?_
  refine awt_end ?_
  rw [e4]
  exact cut_n ⟨rfl, rfl⟩ (by first | ((repeat' (first | exact True.intro | refine ⟨rfl, ?_⟩)); all_goals fail) | fail) (by solve | repeat' constructor)
end
theorem PostWider_p (p : PostD) (rec : List SaleD) (w v : Int) (hl : p.ords.length ≤ 9223372036854775807) (hrl : rec.length ≤ 9223372036854775807) (hw : 0 ≤ w ∧ w ≤ 255) (hv0 : 0 ≤ v ∧ v ≤ 255) : PCall Try.prog 13 [postA false p, .t (salesT false rec), .v (.int .u8 w), .v (.int .u8 v)] (fun r => r = boolA true) := by
  refine acall_of_awp T0 Try.func13 rfl rfl rfl ?_
  repeat (first | refine awp_seq ?_ | refine awp_region_lit rfl ?_)
  refine awl_hw (by first | exact wt_none rfl | exact wt_some' rfl rfl rfl rfl (by first | rfl | assumption | exact dT (by omega) | exact dF (by omega))) (st_box rfl rfl (by first | rfl | assumption) (by first | assumption | (simp only [cellsA]; rfl)) rfl rfl ?_)
  intro g4
  repeat (first | refine awp_seq ?_ | refine awp_region_lit rfl ?_ | ((first | (show AWL _ _ _ (⟨_, .assign _, _, _, _, _⟩ :: _) _ _ _; refine awl_pw ?wtq (pv_assign rfl rfl) rfl rfl ?_) | (show AWL _ _ _ (⟨_, .load _ _, _, _, _, _⟩ :: _) _ _ _; refine awl_lw ?wtq (lv_cla T0 rfl rfl rfl (by solve | repeat' constructor) rfl) rfl rfl rfl ?_)); case wtq => first | exact wt_none rfl | exact wt_some' rfl rfl rfl rfl (by first | rfl | assumption | exact dT (by omega) | exact dF (by omega))) | refine awl_nil ?_)
  cases hrd : (decide (p.ords.length ≤ 9) && decide (faultN p = 0))
  · have hR := ready_q hl hrd
    refine awl_hw (by first | exact wt_none rfl | exact wt_some' rfl rfl rfl rfl (by first | rfl | assumption | exact dT (by omega) | exact dF (by omega))) (st_call T0 (hR) rfl rfl rfl rfl (by first | exact callee_lit | exact callee_v | exact callee_fn | assumption) (by solve | repeat' constructor) (by first | rfl | assumption) rfl ?_)
    rintro _ rfl
    repeat (first | refine awp_seq ?_ | refine awp_region_lit rfl ?_ | refine then_n ?_ | refine awp_cond_t rfl (by first | rfl | assumption | exact dT (by omega)) ?_ | ((first | (show AWL _ _ _ (⟨_, .move _, _, _, _, _⟩ :: _) _ _ _; refine awl_pw ?wtq (pv_move rfl rfl) rfl rfl ?_) | (show AWL _ _ _ (⟨_, .unOp .not _ _, _, _, _, _⟩ :: _) _ _ _; refine awl_pw ?wtq (pv_not rfl rfl) rfl rfl ?_) | (show AWL _ _ _ (⟨_, .pick _ _ _, _, _, _, _⟩ :: _) _ _ _; refine awl_pw ?wtq (pv_pick_t rfl rfl (by first | rfl | assumption | exact dT (by omega) | exact dF (by omega)) rfl) rfl rfl ?_)); case wtq => first | exact wt_none rfl | exact wt_some' rfl rfl rfl rfl (by first | rfl | assumption | exact dT (by omega) | exact dF (by omega))) | refine awl_sk (wf_some rfl rfl rfl rfl (by first | rfl | assumption | exact dT (by omega) | exact dF (by omega))) rfl rfl ?_ | refine awl_nil ?_)
    refine awl_hw (by first | exact wt_none rfl | exact wt_some' rfl rfl rfl rfl (by first | rfl | assumption | exact dT (by omega) | exact dF (by omega))) (st_call T0 (awake_p) rfl rfl rfl rfl (by first | exact callee_lit | exact callee_v | exact callee_fn | assumption) (by solve | repeat' constructor) (by first | rfl | assumption) rfl ?_)
    rintro _ rfl
    repeat (first | refine awp_ret ?_ | refine then_r ?_ | ((first | (show AWL _ _ _ (⟨_, .assign _, _, _, _, _⟩ :: _) _ _ _; refine awl_pw ?wtq (pv_assign rfl rfl) rfl rfl ?_)); case wtq => first | exact wt_none rfl | exact wt_some' rfl rfl rfl rfl (by first | rfl | assumption | exact dT (by omega) | exact dF (by omega))) | refine awl_nil ?_)
    exact body_p (.cons rfl .nil) rfl
  have hR := ready_q hl hrd
  rw [Bool.and_eq_true] at hrd
  have h0 : faultN p = 0 := of_decide_eq_true hrd.2
  have hv := vpost h0
  have hlen := hv.len
  have hpos := hv.pos
  by_cases h6 : (6 : Int) < rec.length
  · refine awl_hw (by first | exact wt_none rfl | exact wt_some' rfl rfl rfl rfl (by first | rfl | assumption | exact dT (by omega) | exact dF (by omega))) (st_call T0 (hR) rfl rfl rfl rfl (by first | exact callee_lit | exact callee_v | exact callee_fn | assumption) (by solve | repeat' constructor) (by first | rfl | assumption) rfl ?_)
    rintro _ rfl
    repeat (first | refine awp_seq ?_ | refine awp_region_lit rfl ?_ | refine then_n ?_ | refine awp_cond_t rfl (by first | rfl | assumption | exact dT (by omega)) ?_ | ((first | (show AWL _ _ _ (⟨_, .move _, _, _, _, _⟩ :: _) _ _ _; refine awl_pw ?wtq (pv_move rfl rfl) rfl rfl ?_) | (show AWL _ _ _ (⟨_, .binOp .gtr _ _ _ _, _, _, _, _⟩ :: _) _ _ _; refine awl_pw ?wtq (pv_gtr rfl rfl rfl) rfl rfl ?_) | (show AWL _ _ _ (⟨_, .call ⟨.builtin .len, _, _⟩, _, _, _, _⟩ :: _) _ _ _; refine awl_pw ?wtq (pv_len_t T0 rfl rfl rfl) rfl rfl ?_) | (show AWL _ _ _ (⟨_, .unOp .not _ _, _, _, _, _⟩ :: _) _ _ _; refine awl_pw ?wtq (pv_not rfl rfl) rfl rfl ?_) | (show AWL _ _ _ (⟨_, .pick _ _ _, _, _, _, _⟩ :: _) _ _ _; refine awl_pw ?wtq (pv_pick_f rfl rfl (by first | rfl | assumption | exact dT (by omega) | exact dF (by omega)) rfl) rfl rfl ?_)); case wtq => first | exact wt_none rfl | exact wt_some' rfl rfl rfl rfl (by first | rfl | assumption | exact dT (by omega) | exact dF (by omega))) | refine awl_nil ?_)
    refine awl_hw (by first | exact wt_none rfl | exact wt_some' rfl rfl rfl rfl (by first | rfl | assumption | exact dT (by omega) | exact dF (by omega))) (st_call T0 (awake_p) rfl rfl rfl rfl (by first | exact callee_lit | exact callee_v | exact callee_fn | assumption) (by solve | repeat' constructor) (by first | rfl | assumption) rfl ?_)
    rintro _ rfl
    repeat (first | refine awp_ret ?_ | refine then_r ?_ | ((first | (show AWL _ _ _ (⟨_, .assign _, _, _, _, _⟩ :: _) _ _ _; refine awl_pw ?wtq (pv_assign rfl rfl) rfl rfl ?_)); case wtq => first | exact wt_none rfl | exact wt_some' rfl rfl rfl rfl (by first | rfl | assumption | exact dT (by omega) | exact dF (by omega))) | refine awl_nil ?_)
    exact body_p (.cons rfl .nil) rfl
  obtain ⟨q, hq⟩ := Int.eq_ofNat_of_zero_le (Int.tmod_nonneg (p.ords.length : Int) hw.1)
  have hqn : q < p.ords.length := by
    have := Int.tmod_lt_of_pos w (show (0 : Int) < p.ords.length by omega)
    omega
  obtain ⟨d1, hd1⟩ : ∃ d1, v.tmod 4 = d1 := ⟨_, rfl⟩
  obtain ⟨d2, hd2⟩ : ∃ d2, (v.tdiv 4).tmod 4 = d2 := ⟨_, rfl⟩
  have hq0 : 0 ≤ v.tdiv 4 ∧ v.tdiv 4 ≤ 255 := ⟨Int.tdiv_nonneg hv0.1 (by decide), Int.le_trans (Int.tdiv_le_self 4 hv0.1) hv0.2⟩
  have hdd : 0 ≤ d1 ∧ d1 ≤ 3 ∧ 0 ≤ d2 ∧ d2 ≤ 3 := by
    have a1 := Int.tmod_nonneg 4 hv0.1
    have a2 := Int.tmod_lt_of_pos v (show (0 : Int) < 4 by decide)
    have a3 := Int.tmod_nonneg 4 hq0.1
    have a4 := Int.tmod_lt_of_pos (v.tdiv 4) (show (0 : Int) < 4 by decide)
    omega
  have hq4 : IntKind.i64.wrap (v.tdiv 4) = v.tdiv 4 := wr64 (by omega)
  have hmin : 0 ≤ (oAt p q).lo ∧ (oAt p q).lo ≤ (oAt p q).hi ∧ (oAt p q).hi ≤ 30 := hv.min q hqn
  have hrows : (p.ords.map ordRow).length = p.ords.length := by simp
  have hrow : (p.ords.map ordRow).getD q [] = ordRow (oAt p q) := by
    show _ = ordRow (p.ords.getD q default)
    simp [List.getD_eq_getElem?_getD, hqn]
  have r1 : ((p.ords.map ordRow).getD q [])[3]? = some (intA (oAt p q).lo) := by rw [hrow]; rfl
  have r2 : ((p.ords.map ordRow).getD q [])[4]? = some (intA (oAt p q).hi) := by rw [hrow]; rfl
  have hset : (p.ords.map ordRow).set q (spA ((p.ords.map ordRow).getD q []) 3 [intA (max 0 ((oAt p q).lo - d1)), intA (min 30 ((oAt p q).hi + d2))]) = (setP p q (max 0 ((oAt p q).lo - d1)) (min 30 ((oAt p q).hi + d2))).ords.map ordRow := by
    rw [hrow]
    unfold setP
    rw [List.map_set]
    rfl
  refine awl_hw (by first | exact wt_none rfl | exact wt_some' rfl rfl rfl rfl (by first | rfl | assumption | exact dT (by omega) | exact dF (by omega))) (st_call T0 (hR) rfl rfl rfl rfl (by first | exact callee_lit | exact callee_v | exact callee_fn | assumption) (by solve | repeat' constructor) (by first | rfl | assumption) rfl ?_)
  rintro _ rfl
  repeat (first | refine awp_seq ?_ | refine awp_region_lit rfl ?_ | refine awp_skip ?_ | refine then_n ?_ | refine awp_cond_f rfl (by first | rfl | assumption | exact dF (by omega)) ?_ | ((first | (show AWL _ _ _ (⟨_, .move _, _, _, _, _⟩ :: _) _ _ _; refine awl_pw ?wtq (pv_move rfl rfl) rfl rfl ?_) | (show AWL _ _ _ (⟨_, .binOp .gtr _ _ _ _, _, _, _, _⟩ :: _) _ _ _; refine awl_pw ?wtq (pv_gtr rfl rfl rfl) rfl rfl ?_) | (show AWL _ _ _ (⟨_, .call ⟨.builtin .len, _, _⟩, _, _, _, _⟩ :: _) _ _ _; refine awl_pw ?wtq (pv_len_t T0 rfl rfl rfl) rfl rfl ?_) | (show AWL _ _ _ (⟨_, .unOp .not _ _, _, _, _, _⟩ :: _) _ _ _; refine awl_pw ?wtq (pv_not rfl rfl) rfl rfl ?_) | (show AWL _ _ _ (⟨_, .pick _ _ _, _, _, _, _⟩ :: _) _ _ _; refine awl_pw ?wtq (pv_pick_f rfl rfl (by first | rfl | assumption | exact dT (by omega) | exact dF (by omega)) rfl) rfl rfl ?_)); case wtq => first | exact wt_none rfl | exact wt_some' rfl rfl rfl rfl (by first | rfl | assumption | exact dT (by omega) | exact dF (by omega))) | refine awl_nil ?_)
  refine awl_hw (by first | exact wt_none rfl | exact wt_some' rfl rfl rfl rfl (by first | rfl | assumption | exact dT (by omega) | exact dF (by omega))) (st_bsl T0 rfl rfl rfl rfl rfl (by solve | repeat' constructor) rfl rfl rfl rfl (by simp only [List.map_cons, List.map_nil, cellsA]; rfl) ?_)
  intro g35
  repeat (first | ((first | (show AWL _ _ _ (⟨_, .load _ _, _, _, _, _⟩ :: _) _ _ _; refine awl_lw ?wtq (lv_cl1 T0 rfl rfl rfl (by solve | repeat' constructor) (by first | rfl | assumption)) rfl rfl rfl ?_) | (show AWL _ _ _ (⟨_, .fieldAddr _ _ _, _, _, _, _⟩ :: _) _ _ _; refine awl_pw ?wtq (pv_fa T0 rfl rfl rfl (by simp; rfl)) rfl rfl ?_)); case wtq => first | exact wt_none rfl | exact wt_some' rfl rfl rfl rfl (by first | rfl | assumption | exact dT (by omega) | exact dF (by omega))))
  refine awl_hw (by first | exact wt_none rfl | exact wt_some' rfl rfl rfl rfl (by first | rfl | assumption | exact dT (by omega) | exact dF (by omega))) (st_appt T0 rfl rfl rfl rfl rfl rfl rfl rfl rfl (by solve | repeat' constructor) (by first | exact ordOne _ | (intro k hk u hu; simp at hu; subst hu; rfl)) (rfl : ([] : List (List AV)).length = 0) (by first | omega | (simp; omega)) (fun _ _ => trivial) rfl ?_)
  intro a38 c38 p38
  simp only [List.nil_append, List.length_nil, Nat.zero_add, ordRows_range]
  repeat (first | ((first | (show AWL _ _ _ (⟨_, .build _ _, _, _, _, _⟩ :: _) _ _ _; refine awl_pw ?wtq (pv_build T0 rfl rfl rfl (by simp only [Value.cells, List.toList_toArray, List.map_cons, List.map_nil]; rfl) (by first | ((repeat' (first | exact BParts.nil | apply BParts.cons | rfl)); all_goals fail) | fail) (by first | ((repeat' (first | exact FillA.nil | exact Sp.done | apply FillA.cons | apply Sp.put | apply Sp.skip | (simp only [cellsA]; rfl) | rfl)); all_goals fail) | fail)) rfl rfl ?_)); case wtq => first | exact wt_none rfl | exact wt_some' rfl rfl rfl rfl (by first | rfl | assumption | exact dT (by omega) | exact dF (by omega))))
  refine awl_hw (by first | exact wt_none rfl | exact wt_some' rfl rfl rfl rfl (by first | rfl | assumption | exact dT (by omega) | exact dF (by omega))) (st_alloc T0 rfl rfl rfl rfl (by simp only [Value.cells, List.toList_toArray, List.map_cons, List.map_nil]; rfl) ?_)
  intro g9
  repeat (first | refine awp_seq ?_ | (show AWL _ _ _ (⟨_, .store _ _ _, _, _, _, _⟩ :: _) _ _ _; refine awl_hw (by first | exact wt_none rfl | exact wt_some' rfl rfl rfl rfl (by first | rfl | assumption | exact dT (by omega) | exact dF (by omega))) (st_store T0 rfl rfl rfl rfl rfl (by first | assumption | (simp only [cellsA]; rfl)) rfl rfl rfl (by solve | repeat' constructor) (by solve | repeat' constructor) trivial ?_)) | refine awl_nil ?_)
  obtain ⟨ga, rfl⟩ := p38 (by omega)
  refine awp_cut _ (awp_weak (by first | ((repeat' (first | exact True.intro | refine ⟨rfl, ?_⟩)); all_goals fail) | fail) (by solve | repeat' constructor) (qn_4 (g4 := g4) (g9 := g9) (ga := ga) (n := p.ords.length) (q := q) (c := c38) (u1 := .t (salesT false rec)) (u3 := .v (.int .u8 v)) (w := w) (rows := p.ords.map ordRow) (x := .cl g4 24 [.t (ordsT false p.ords)]) hq hqn (by omega) hw rfl)) ?_
  rintro s h ⟨rfl, rfl⟩
  repeat (first | refine awp_seq ?_)
  refine awp_cut _ (awp_weak (by first | ((repeat' (first | exact True.intro | refine ⟨rfl, ?_⟩)); all_goals fail) | fail) (by solve | repeat' constructor) (qn_5 (g4 := g4) (g9 := g9) (ga := ga) (n := p.ords.length) (q := q) (c := c38) (u1 := .t (salesT false rec)) (v := v) (d1 := d1) (d2 := d2) (rows := p.ords.map ordRow) (x := .cl g4 24 [.t (ordsT false p.ords)]) (y := .cl g9 24 [.v (.slice (some ⟨ga, 0, none⟩) p.ords.length c38)]) hqn (by omega) hv0 hrows r1 r2 (by omega) hd1 hd2 hdd hq4 hset rfl)) ?_
  rintro s h ⟨rfl, rfl⟩
  as_aux_lemma =>
    have h0x := setP_ok hv (q := q) (lo := max 0 ((oAt p q).lo - d1)) (hi := min 30 ((oAt p q).hi + d2)) hqn (by omega)
    have hwide := setP_wide (p := p) (q := q) (lo := max 0 ((oAt p q).lo - d1)) (hi := min 30 ((oAt p q).hi + d2)) hqn (by omega) (by omega)
    clear hset r1 r2 hrow hrows hmin
    generalize setP p q (max 0 ((oAt p q).lo - d1)) (min 30 ((oAt p q).hi + d2)) = x at *
    have hvx := vpost h0x
    have hxl := hwide.len
    have htree := mix_tree x
    rw [hxl] at htree
    have hpw := post_w true x (by omega)
    have hxr : (x.ords.map ordRow).length = p.ords.length := by rw [List.length_map, hxl]
    refine awp_ghost (ghost_freeze_cell (g := g9) (j := 0) (v := .slice (some ⟨ga, 0, none⟩) p.ords.length c38) (E := 58) (sz := 5) (n := p.ords.length) (rows := x.ords.map ordRow) (fun q => ordL (x.ords.getD q default)) (by solve | repeat' constructor) (by solve | repeat' constructor) rfl rfl hxr htree) ?_
    rw [show Tr.sl true 5 p.ords.length (fun q => ordL (x.ords.getD q default)) = ordsT true x.ords from by rw [← hxl]; rfl]
    have hFp := Fills_p true p (by omega)
    have hFx := Fills_p true x (by omega)
    have hSp := Surely_p true p (by omega)
    have hSx := Surely_p true x (by omega)
    have hSRp : surelyR p = (natsI (sureL p (fillsR p).1 p.ords.length), 0) := by unfold surelyR; rw [if_neg (fun h => h h0)]
    have hSRx : surelyR x = (natsI (sureL x (fillsR x).1 x.ords.length), 0) := by unfold surelyR; rw [if_neg (fun h => h h0x)]
    rw [hSRp, fillsR_ok h0] at hSp
    rw [hSRx, fillsR_ok h0x] at hSx
    rw [fillsR_ok h0] at hFp
    rw [fillsR_ok h0x] at hFx
    have hsur := wide_sure hv hvx hwide (rs := (List.range p.ords.length).map fun i => (bndL (filF i) (leaves p)).2) (rs' := (List.range x.ords.length).map fun i => (bndL (filF i) (leaves x)).2) (fun i hi => by simp [List.getD_eq_getElem?_getD, hi]) (fun i hi => by
      have : i < x.ords.length := by omega
      simp [List.getD_eq_getElem?_getD, this])
    have hb1 : ∀ i, i < p.ords.length → (((List.range x.ords.length).map fun i => (bndL (filF i) (leaves x)).2).getD i default).1 ≤ (((List.range p.ords.length).map fun i => (bndL (filF i) (leaves p)).2).getD i default).1 ∧ (((List.range p.ords.length).map fun i => (bndL (filF i) (leaves p)).2).getD i default).2 ≤ (((List.range x.ords.length).map fun i => (bndL (filF i) (leaves x)).2).getD i default).2 := fun i hi => by
      have : i < x.ords.length := by omega
      have e1 : ((List.range x.ords.length).map fun i => (bndL (filF i) (leaves x)).2).getD i default = (bndL (filF i) (leaves x)).2 := by simp [List.getD_eq_getElem?_getD, this]
      have e2 : ((List.range p.ords.length).map fun i => (bndL (filF i) (leaves p)).2).getD i default = (bndL (filF i) (leaves p)).2 := by simp [List.getD_eq_getElem?_getD, hi]
      rw [e1, e2]
      exact wide_bnd hv hvx hwide (f := filF i) (fun a b e => by unfold filF; rw [e])
    have hb2 : ∀ i, i < p.ords.length → (((List.range x.ords.length).map fun i => (bndL (filM i) (leaves x)).2).getD i default).1 ≤ (((List.range p.ords.length).map fun i => (bndL (filM i) (leaves p)).2).getD i default).1 ∧ (((List.range p.ords.length).map fun i => (bndL (filM i) (leaves p)).2).getD i default).2 ≤ (((List.range x.ords.length).map fun i => (bndL (filM i) (leaves x)).2).getD i default).2 := fun i hi => by
      have : i < x.ords.length := by omega
      have e1 : ((List.range x.ords.length).map fun i => (bndL (filM i) (leaves x)).2).getD i default = (bndL (filM i) (leaves x)).2 := by simp [List.getD_eq_getElem?_getD, this]
      have e2 : ((List.range p.ords.length).map fun i => (bndL (filM i) (leaves p)).2).getD i default = (bndL (filM i) (leaves p)).2 := by simp [List.getD_eq_getElem?_getD, hi]
      rw [e1, e2]
      exact wide_bnd hv hvx hwide (f := filM i) (fun a b e => by unfold filM; rw [e])
    have l1 : ((List.range p.ords.length).map fun i => (bndL (filF i) (leaves p)).2).length = p.ords.length := by simp
    have l2 : ((List.range p.ords.length).map fun i => (bndL (filM i) (leaves p)).2).length = p.ords.length := by simp
    have l3 : ((List.range x.ords.length).map fun i => (bndL (filF i) (leaves x)).2).length = p.ords.length := by simp [hxl]
    have l4 : ((List.range x.ords.length).map fun i => (bndL (filM i) (leaves x)).2).length = p.ords.length := by simp [hxl]
    generalize ((List.range p.ords.length).map fun i => (bndL (filF i) (leaves p)).2) = rs at *
    generalize ((List.range p.ords.length).map fun i => (bndL (filM i) (leaves p)).2) = ms at *
    generalize ((List.range x.ords.length).map fun i => (bndL (filF i) (leaves x)).2) = cs at *
    generalize ((List.range x.ords.length).map fun i => (bndL (filM i) (leaves x)).2) = ds at *
    have hS1 := natsI_len (sureL p rs p.ords.length)
    have hS2 := natsI_len (sureL x cs x.ords.length)
    have hr0 : recdN p rec = 0 := by unfold recdN; rw [if_neg (fun h => h h0), if_neg (by omega)]
    have hr0x : recdN x rec = 0 := by unfold recdN; rw [if_neg (fun h => h h0x), if_neg (by omega)]
    obtain ⟨Y, hY, hYm⟩ := leave_min hv hr0
    obtain ⟨Z, hZ, hZm⟩ := leave_min hvx hr0x
    have hYZ := wide_min hv hvx hwide hYm hZm
    have hLp := Leave_p true true p rec (by omega) (by omega)
    have hLx := Leave_p true true x rec (by omega) (by omega)
    rw [hY] at hLp
    rw [hZ] at hLx
    generalize natsI (sureL p rs p.ords.length) = S at *
    generalize natsI (sureL x cs x.ords.length) = T at *
    have hFp' : PCall Try.prog 29 [postA true p] (fun r => r = .tup [.t (rngsT true rs), .t (rngsT true ms), intA 0]) := hFp
    have hFx' : PCall Try.prog 29 [postA true x] (fun r => r = .tup [.t (rngsT true cs), .t (rngsT true ds), intA 0]) := hFx
    have hSp' : PCall Try.prog 30 [postA true p] (fun r => r = .tup [.t (intsT true S), intA 0]) := hSp
    have hSx' : PCall Try.prog 30 [postA true x] (fun r => r = .tup [.t (intsT true T), intA 0]) := hSx
    have hLp' : PCall Try.prog 38 [postA true p, .t (salesT true rec)] (fun r => r = .tup [.t (intsT true Y), intA 0]) := hLp
    have hLx' : PCall Try.prog 38 [postA true x, .t (salesT true rec)] (fun r => r = .tup [.t (intsT true Z), intA 0]) := hLx
    clear hFp hFx hSp hSx hLp hLx hSRp hSRx hYm hZm hY hZ
    have dd1 : decide ((Y.length : Int) < Z.length) = false := decide_eq_false (by omega)
    have dd2 : decide ((S.length : Int) < T.length) = false := decide_eq_false (by omega)
    have dd3 : decide ((rs.length : Int) ≠ cs.length) = false := decide_eq_false (by omega)
    have dd4 : decide ((ms.length : Int) ≠ rs.length) = false := decide_eq_false (by omega)
    have dd5 : decide ((ds.length : Int) ≠ rs.length) = false := decide_eq_false (by omega)
    repeat (first | refine awp_seq ?_ | refine awp_region_lit rfl ?_ | ((first | (show AWL _ _ _ (⟨_, .load _ _, _, _, _, _⟩ :: _) _ _ _; refine awl_lw ?wtq (lv_cla T0 rfl rfl rfl (by solve | repeat' constructor) rfl) rfl rfl rfl ?_)); case wtq => first | exact wt_none rfl | exact wt_some' rfl rfl rfl rfl (by first | rfl | assumption | exact dT (by omega) | exact dF (by omega))))
    refine awl_hw (by first | exact wt_none rfl | exact wt_some' rfl rfl rfl rfl (by first | rfl | assumption | exact dT (by omega) | exact dF (by omega))) (st_call T0 (post_p p (by omega)) rfl rfl rfl rfl (by first | exact callee_lit | exact callee_v | exact callee_fn | assumption) (by solve | repeat' constructor) (by first | rfl | assumption) rfl ?_)
    rintro _ rfl
    skip
    refine awl_hw (by first | exact wt_none rfl | exact wt_some' rfl rfl rfl rfl (by first | rfl | assumption | exact dT (by omega) | exact dF (by omega))) (st_call T0 (hFp') rfl rfl rfl rfl (by first | exact callee_lit | exact callee_v | exact callee_fn | assumption) (by solve | repeat' constructor) (by first | rfl | assumption) rfl ?_)
    rintro _ rfl
    repeat (first | refine awp_seq ?_ | refine awp_region_lit rfl ?_ | ((first | (show AWL _ _ _ (⟨_, .move _, _, _, _, _⟩ :: _) _ _ _; refine awl_pw ?wtq (pv_move rfl rfl) rfl rfl ?_) | (show AWL _ _ _ (⟨_, .assign _, _, _, _, _⟩ :: _) _ _ _; refine awl_pw ?wtq (pv_assign rfl rfl) rfl rfl ?_) | (show AWL _ _ _ (⟨_, .load _ _, _, _, _, _⟩ :: _) _ _ _; refine awl_lw ?wtq (lv_cla T0 rfl rfl rfl (by solve | repeat' constructor) rfl) rfl rfl rfl ?_) | (show AWL _ _ _ (⟨_, .extract _ _, _, _, _, _⟩ :: _) _ _ _; refine awl_pw ?wtq (pv_extract rfl rfl rfl) rfl rfl ?_)); case wtq => first | exact wt_none rfl | exact wt_some' rfl rfl rfl rfl (by first | rfl | assumption | exact dT (by omega) | exact dF (by omega))) | refine awl_nil ?_)
    refine awl_hw (by first | exact wt_none rfl | exact wt_some' rfl rfl rfl rfl (by first | rfl | assumption | exact dT (by omega) | exact dF (by omega))) (st_call T0 (hpw) rfl rfl rfl rfl (by first | exact callee_lit | exact callee_v | exact callee_fn | assumption) (by solve | repeat' constructor) (by first | rfl | assumption) rfl ?_)
    rintro _ rfl
    skip
    refine awl_hw (by first | exact wt_none rfl | exact wt_some' rfl rfl rfl rfl (by first | rfl | assumption | exact dT (by omega) | exact dF (by omega))) (st_call T0 (hFx') rfl rfl rfl rfl (by first | exact callee_lit | exact callee_v | exact callee_fn | assumption) (by solve | repeat' constructor) (by first | rfl | assumption) rfl ?_)
    rintro _ rfl
    repeat (first | refine awp_seq ?_ | refine awp_region_lit rfl ?_ | ((first | (show AWL _ _ _ (⟨_, .move _, _, _, _, _⟩ :: _) _ _ _; refine awl_pw ?wtq (pv_move rfl rfl) rfl rfl ?_) | (show AWL _ _ _ (⟨_, .assign _, _, _, _, _⟩ :: _) _ _ _; refine awl_pw ?wtq (pv_assign rfl rfl) rfl rfl ?_) | (show AWL _ _ _ (⟨_, .load _ _, _, _, _, _⟩ :: _) _ _ _; refine awl_lw ?wtq (lv_cla T0 rfl rfl rfl (by solve | repeat' constructor) rfl) rfl rfl rfl ?_) | (show AWL _ _ _ (⟨_, .extract _ _, _, _, _, _⟩ :: _) _ _ _; refine awl_pw ?wtq (pv_extract rfl rfl rfl) rfl rfl ?_)); case wtq => first | exact wt_none rfl | exact wt_some' rfl rfl rfl rfl (by first | rfl | assumption | exact dT (by omega) | exact dF (by omega))) | refine awl_nil ?_)
    refine awl_hw (by first | exact wt_none rfl | exact wt_some' rfl rfl rfl rfl (by first | rfl | assumption | exact dT (by omega) | exact dF (by omega))) (st_call T0 (post_p p (by omega)) rfl rfl rfl rfl (by first | exact callee_lit | exact callee_v | exact callee_fn | assumption) (by solve | repeat' constructor) (by first | rfl | assumption) rfl ?_)
    rintro _ rfl
    skip
    refine awl_hw (by first | exact wt_none rfl | exact wt_some' rfl rfl rfl rfl (by first | rfl | assumption | exact dT (by omega) | exact dF (by omega))) (st_call T0 (hSp') rfl rfl rfl rfl (by first | exact callee_lit | exact callee_v | exact callee_fn | assumption) (by solve | repeat' constructor) (by first | rfl | assumption) rfl ?_)
    rintro _ rfl
    repeat (first | refine awp_seq ?_ | refine awp_region_lit rfl ?_ | ((first | (show AWL _ _ _ (⟨_, .move _, _, _, _, _⟩ :: _) _ _ _; refine awl_pw ?wtq (pv_move rfl rfl) rfl rfl ?_) | (show AWL _ _ _ (⟨_, .assign _, _, _, _, _⟩ :: _) _ _ _; refine awl_pw ?wtq (pv_assign rfl rfl) rfl rfl ?_) | (show AWL _ _ _ (⟨_, .load _ _, _, _, _, _⟩ :: _) _ _ _; refine awl_lw ?wtq (lv_cla T0 rfl rfl rfl (by solve | repeat' constructor) rfl) rfl rfl rfl ?_) | (show AWL _ _ _ (⟨_, .extract _ _, _, _, _, _⟩ :: _) _ _ _; refine awl_pw ?wtq (pv_extract rfl rfl rfl) rfl rfl ?_)); case wtq => first | exact wt_none rfl | exact wt_some' rfl rfl rfl rfl (by first | rfl | assumption | exact dT (by omega) | exact dF (by omega))) | refine awl_nil ?_)
    refine awl_hw (by first | exact wt_none rfl | exact wt_some' rfl rfl rfl rfl (by first | rfl | assumption | exact dT (by omega) | exact dF (by omega))) (st_call T0 (hpw) rfl rfl rfl rfl (by first | exact callee_lit | exact callee_v | exact callee_fn | assumption) (by solve | repeat' constructor) (by first | rfl | assumption) rfl ?_)
    rintro _ rfl
    skip
    refine awl_hw (by first | exact wt_none rfl | exact wt_some' rfl rfl rfl rfl (by first | rfl | assumption | exact dT (by omega) | exact dF (by omega))) (st_call T0 (hSx') rfl rfl rfl rfl (by first | exact callee_lit | exact callee_v | exact callee_fn | assumption) (by solve | repeat' constructor) (by first | rfl | assumption) rfl ?_)
    rintro _ rfl
    repeat (first | refine awp_seq ?_ | refine awp_region_lit rfl ?_ | ((first | (show AWL _ _ _ (⟨_, .move _, _, _, _, _⟩ :: _) _ _ _; refine awl_pw ?wtq (pv_move rfl rfl) rfl rfl ?_) | (show AWL _ _ _ (⟨_, .assign _, _, _, _, _⟩ :: _) _ _ _; refine awl_pw ?wtq (pv_assign rfl rfl) rfl rfl ?_) | (show AWL _ _ _ (⟨_, .load _ _, _, _, _, _⟩ :: _) _ _ _; refine awl_lw ?wtq (lv_cla T0 rfl rfl rfl (by solve | repeat' constructor) rfl) rfl rfl rfl ?_) | (show AWL _ _ _ (⟨_, .extract _ _, _, _, _, _⟩ :: _) _ _ _; refine awl_pw ?wtq (pv_extract rfl rfl rfl) rfl rfl ?_)); case wtq => first | exact wt_none rfl | exact wt_some' rfl rfl rfl rfl (by first | rfl | assumption | exact dT (by omega) | exact dF (by omega))) | refine awl_nil ?_)
    refine awl_hw (by first | exact wt_none rfl | exact wt_some' rfl rfl rfl rfl (by first | rfl | assumption | exact dT (by omega) | exact dF (by omega))) (st_call T0 (post_p p (by omega)) rfl rfl rfl rfl (by first | exact callee_lit | exact callee_v | exact callee_fn | assumption) (by solve | repeat' constructor) (by first | rfl | assumption) rfl ?_)
    rintro _ rfl
    repeat (first | ((first | (show AWL _ _ _ (⟨_, .move _, _, _, _, _⟩ :: _) _ _ _; refine awl_pw ?wtq (pv_move rfl rfl) rfl rfl ?_)); case wtq => first | exact wt_none rfl | exact wt_some' rfl rfl rfl rfl (by first | rfl | assumption | exact dT (by omega) | exact dF (by omega))))
    refine awl_hw (by first | exact wt_none rfl | exact wt_some' rfl rfl rfl rfl (by first | rfl | assumption | exact dT (by omega) | exact dF (by omega))) (st_call T0 (sales_p false rec (by omega)) rfl rfl rfl rfl (by first | exact callee_lit | exact callee_v | exact callee_fn | assumption) (by solve | repeat' constructor) (by first | rfl | assumption) rfl ?_)
    rintro _ rfl
    skip
    refine awl_hw (by first | exact wt_none rfl | exact wt_some' rfl rfl rfl rfl (by first | rfl | assumption | exact dT (by omega) | exact dF (by omega))) (st_call T0 (hLp') rfl rfl rfl rfl (by first | exact callee_lit | exact callee_v | exact callee_fn | assumption) (by solve | repeat' constructor) (by first | rfl | assumption) rfl ?_)
    rintro _ rfl
    repeat (first | refine awp_seq ?_ | refine awp_region_lit rfl ?_ | ((first | (show AWL _ _ _ (⟨_, .move _, _, _, _, _⟩ :: _) _ _ _; refine awl_pw ?wtq (pv_move rfl rfl) rfl rfl ?_) | (show AWL _ _ _ (⟨_, .assign _, _, _, _, _⟩ :: _) _ _ _; refine awl_pw ?wtq (pv_assign rfl rfl) rfl rfl ?_) | (show AWL _ _ _ (⟨_, .load _ _, _, _, _, _⟩ :: _) _ _ _; refine awl_lw ?wtq (lv_cla T0 rfl rfl rfl (by solve | repeat' constructor) rfl) rfl rfl rfl ?_) | (show AWL _ _ _ (⟨_, .extract _ _, _, _, _, _⟩ :: _) _ _ _; refine awl_pw ?wtq (pv_extract rfl rfl rfl) rfl rfl ?_)); case wtq => first | exact wt_none rfl | exact wt_some' rfl rfl rfl rfl (by first | rfl | assumption | exact dT (by omega) | exact dF (by omega))) | refine awl_nil ?_)
    refine awl_hw (by first | exact wt_none rfl | exact wt_some' rfl rfl rfl rfl (by first | rfl | assumption | exact dT (by omega) | exact dF (by omega))) (st_call T0 (hpw) rfl rfl rfl rfl (by first | exact callee_lit | exact callee_v | exact callee_fn | assumption) (by solve | repeat' constructor) (by first | rfl | assumption) rfl ?_)
    rintro _ rfl
    repeat (first | ((first | (show AWL _ _ _ (⟨_, .move _, _, _, _, _⟩ :: _) _ _ _; refine awl_pw ?wtq (pv_move rfl rfl) rfl rfl ?_)); case wtq => first | exact wt_none rfl | exact wt_some' rfl rfl rfl rfl (by first | rfl | assumption | exact dT (by omega) | exact dF (by omega))))
    refine awl_hw (by first | exact wt_none rfl | exact wt_some' rfl rfl rfl rfl (by first | rfl | assumption | exact dT (by omega) | exact dF (by omega))) (st_call T0 (sales_p false rec (by omega)) rfl rfl rfl rfl (by first | exact callee_lit | exact callee_v | exact callee_fn | assumption) (by solve | repeat' constructor) (by first | rfl | assumption) rfl ?_)
    rintro _ rfl
    skip
    refine awl_hw (by first | exact wt_none rfl | exact wt_some' rfl rfl rfl rfl (by first | rfl | assumption | exact dT (by omega) | exact dF (by omega))) (st_call T0 (hLx') rfl rfl rfl rfl (by first | exact callee_lit | exact callee_v | exact callee_fn | assumption) (by solve | repeat' constructor) (by first | rfl | assumption) rfl ?_)
    rintro _ rfl
    repeat (first | refine awp_seq ?_ | refine awp_block ?_ | refine awp_region_lit rfl ?_ | refine awp_skip ?_ | refine then_n ?_ | refine awp_cond_f rfl (by first | rfl | assumption | exact dF (by omega)) ?_ | ((first | (show AWL _ _ _ (⟨_, .move _, _, _, _, _⟩ :: _) _ _ _; refine awl_pw ?wtq (pv_move rfl rfl) rfl rfl ?_) | (show AWL _ _ _ (⟨_, .assign _, _, _, _, _⟩ :: _) _ _ _; refine awl_pw ?wtq (pv_assign rfl rfl) rfl rfl ?_) | (show AWL _ _ _ (⟨_, .binOp .gtr _ _ _ _, _, _, _, _⟩ :: _) _ _ _; refine awl_pw ?wtq (pv_gtr rfl rfl rfl) rfl rfl ?_) | (show AWL _ _ _ (⟨_, .binOp .neq _ _ _ _, _, _, _, _⟩ :: _) _ _ _; refine awl_pw ?wtq (pv_neq rfl rfl rfl) rfl rfl ?_) | (show AWL _ _ _ (⟨_, .call ⟨.builtin .len, _, _⟩, _, _, _, _⟩ :: _) _ _ _; refine awl_pw ?wtq (pv_len_t T0 rfl rfl rfl) rfl rfl ?_) | (show AWL _ _ _ (⟨_, .extract _ _, _, _, _, _⟩ :: _) _ _ _; refine awl_pw ?wtq (pv_extract rfl rfl rfl) rfl rfl ?_) | (show AWL _ _ _ (⟨_, .pick _ _ _, _, _, _, _⟩ :: _) _ _ _; refine awl_pw ?wtq (pv_pick_f rfl rfl (by first | rfl | assumption | exact dT (by omega) | exact dF (by omega)) rfl) rfl rfl ?_)); case wtq => first | exact wt_none rfl | exact wt_some' rfl rfl rfl rfl (by first | rfl | assumption | exact dT (by omega) | exact dF (by omega))) | refine awl_nil ?_)
    refine awp_loop (fun m s h => ∃ (k : Nat), k ≤ rs.length ∧ m = rs.length - k ∧ s = [(11, .t (rngsT true rs)), (12, .t (rngsT true ms)), (14, .t (rngsT true cs)), (15, .t (rngsT true ds)), (25, intA k)] ∧ h = []) ?_ ⟨0, Nat.zero_le _, rfl, rfl, rfl⟩ (by first | ((repeat' (first | exact True.intro | refine ⟨rfl, ?_⟩)); all_goals fail) | fail) (by solve | repeat' constructor)
    rintro m s h ⟨k, hk, rfl, rfl, rfl⟩
    by_cases hkt : k < rs.length
    case neg =>
      repeat (first | refine awp_seq ?_ | refine awp_region_lit rfl ?_ | refine awp_exit ?_ | refine then_n ?_ | refine awp_cond_f rfl (by first | rfl | assumption | exact dF (by omega)) ?_ | ((first | (show AWL _ _ _ (⟨_, .move _, _, _, _, _⟩ :: _) _ _ _; refine awl_pw ?wtq (pv_move rfl rfl) rfl rfl ?_) | (show AWL _ _ _ (⟨_, .binOp .lss _ _ _ _, _, _, _, _⟩ :: _) _ _ _; refine awl_pw ?wtq (pv_lss rfl rfl rfl) rfl rfl ?_) | (show AWL _ _ _ (⟨_, .call ⟨.builtin .len, _, _⟩, _, _, _, _⟩ :: _) _ _ _; refine awl_pw ?wtq (pv_len_t T0 rfl rfl rfl) rfl rfl ?_)); case wtq => first | exact wt_none rfl | exact wt_some' rfl rfl rfl rfl (by first | rfl | assumption | exact dT (by omega) | exact dF (by omega))) | refine awl_nil ?_)
      refine awl_hw (by first | exact wt_none rfl | exact wt_some' rfl rfl rfl rfl (by first | rfl | assumption | exact dT (by omega) | exact dF (by omega))) (st_call T0 (awake_p) rfl rfl rfl rfl (by first | exact callee_lit | exact callee_v | exact callee_fn | assumption) (by solve | repeat' constructor) (by first | rfl | assumption) rfl ?_)
      rintro _ rfl
      repeat (first | refine awp_ret ?_ | ((first | (show AWL _ _ _ (⟨_, .assign _, _, _, _, _⟩ :: _) _ _ _; refine awl_pw ?wtq (pv_assign rfl rfl) rfl rfl ?_)); case wtq => first | exact wt_none rfl | exact wt_some' rfl rfl rfl rfl (by first | rfl | assumption | exact dT (by omega) | exact dF (by omega))) | refine awl_nil ?_)
      exact body_p (.cons rfl .nil) rfl
    have k1 := hb1 k (by omega)
    have k2 := hb2 k (by omega)
    repeat (first | refine awp_seq ?_ | refine awp_block ?_ | refine awp_region_lit rfl ?_ | refine awp_skip ?_ | refine then_n ?_ | refine awp_cond_t rfl (by first | rfl | assumption | exact dT (by omega)) ?_ | ((first | (show AWL _ _ _ (⟨_, .move _, _, _, _, _⟩ :: _) _ _ _; refine awl_pw ?wtq (pv_move rfl rfl) rfl rfl ?_) | (show AWL _ _ _ (⟨_, .binOp .lss _ _ _ _, _, _, _, _⟩ :: _) _ _ _; refine awl_pw ?wtq (pv_lss rfl rfl rfl) rfl rfl ?_) | (show AWL _ _ _ (⟨_, .call ⟨.builtin .len, _, _⟩, _, _, _, _⟩ :: _) _ _ _; refine awl_pw ?wtq (pv_len_t T0 rfl rfl rfl) rfl rfl ?_)); case wtq => first | exact wt_none rfl | exact wt_some' rfl rfl rfl rfl (by first | rfl | assumption | exact dT (by omega) | exact dF (by omega))) | refine awl_nil ?_)
    refine awp_cut _ (awp_weak (by first | ((repeat' (first | exact True.intro | refine ⟨rfl, ?_⟩)); all_goals fail) | fail) (by solve | repeat' constructor) (qn_17 (k := k) (rs := rs) (ms := ms) (cs := cs) (ds := ds) (by omega) (by omega) (by omega) (by omega) (by omega) (decide_eq_false (by omega)) (decide_eq_false (by omega)) (decide_eq_false (by omega)) (decide_eq_false (by omega)) rfl)) ?_
    rintro s h ⟨rfl, rfl⟩
    repeat (first | refine awp_region_lit rfl ?_ | refine awp_skip ?_ | refine awp_cond_f rfl (by first | rfl | assumption | exact dF (by omega)) ?_ | ((first | (show AWL _ _ _ (⟨_, .move _, _, _, _, _⟩ :: _) _ _ _; refine awl_pw ?wtq (pv_move rfl rfl) rfl rfl ?_) | (show AWL _ _ _ (⟨_, .assign _, _, _, _, _⟩ :: _) _ _ _; refine awl_pw ?wtq (pv_assign rfl rfl) rfl rfl ?_) | (show AWL _ _ _ (⟨_, .binOp .add _ _ _ _, _, _, _, _⟩ :: _) _ _ _; refine awl_pw ?wtq (pv_add rfl rfl rfl (by first | assumption | exact wr64 (by omega))) rfl rfl ?_)); case wtq => first | exact wt_none rfl | exact wt_some' rfl rfl rfl rfl (by first | rfl | assumption | exact dT (by omega) | exact dF (by omega))) | refine awl_nil ?_)
    refine rnd_n _ _ _ ?_ ⟨k + 1, hkt, rfl, rfl, rfl⟩ (by first | ((repeat' (first | exact True.intro | refine ⟨rfl, ?_⟩)); all_goals fail) | fail) (by solve | repeat' constructor)
    omega
end Go.Proofs.Yteaoclpikdmkiaa
end
