/- Rings, plain; the drawn regions of IsRing and of ring. -/
import Derived.Test.YtilhflfbbfeakaaRr
import Derived.Test.YtilhflfbbfeakaaMpi
namespace Go.Proofs.Ytilhflfbbfeakaa
open Go Go.RowKit Go.Tl
set_option linter.unusedVariables false
set_option linter.unusedSimpArgs false
set_option maxRecDepth 100000
set_option maxHeartbeats 4000000
structure RingD where
  cons : List Int
  amount : Int
  deriving Inhabited, DecidableEq
/-- the contract at a place of a ring -/
def cAt (b : BookD) (r : RingD) (k : Nat) : ConD := b.cons.getD (r.cons.getD k 0).toNat default
def okAt (b : BookD) (r : RingD) (k : Nat) : Prop := 0 ≤ r.cons.getD k 0 ∧ r.cons.getD k 0 ≤ b.cons.length - 1
def isRing (b : BookD) (r : RingD) : Prop := 2 ≤ r.cons.length ∧ (1 ≤ r.amount ∧ r.amount ≤ 100) ∧ (∀ k, k < r.cons.length → okAt b r k) ∧
  (∀ k, k < r.cons.length → (cAt b r k).to = (cAt b r ((k + 1) % r.cons.length)).frm) ∧ ∀ k m, k < r.cons.length → m < k → (cAt b r m).frm ≠ (cAt b r k).frm
noncomputable instance (b : BookD) (r : RingD) : Decidable (isRing b r) := Classical.propDecidable _
noncomputable def ringB (b : BookD) (r : RingD) : Bool := decide (isRing b r)
theorem ringB_t {b : BookD} {r : RingD} (h : isRing b r) : ringB b r = true := by unfold ringB; exact decide_eq_true h
theorem ringB_f {b : BookD} {r : RingD} (h : ¬ isRing b r) : ringB b r = false := by unfold ringB; exact decide_eq_false h
theorem ringB_iff {b : BookD} {r : RingD} : ringB b r = true ↔ isRing b r := by unfold ringB; exact decide_eq_true_iff
/-- no more different numbers than there are numbers -/
theorem pigeon : ∀ (h n : Nat) (f : Nat → Nat), (∀ i, i < n → f i < h) → (∀ i j, i < n → j < i → f j ≠ f i) → n ≤ h
  | 0, n, f, hb, _ => by
    rcases Nat.eq_zero_or_pos n with e | e
    · omega
    · exact absurd (hb 0 e) (Nat.not_lt_zero _)
  | h + 1, n, f, hb, hd => by
    by_cases ex : ∃ i, i < n ∧ f i = h
    · obtain ⟨i0, hi0, e0⟩ := ex
      have := pigeon h (n - 1) (fun i => if i < i0 then f i else f (i + 1)) (fun i hi => by
        split
        · have := hb i (by omega)
          have : f i ≠ f i0 := hd i0 i hi0 (by omega)
          omega
        · have := hb (i + 1) (by omega)
          have : f i0 ≠ f (i + 1) := hd (i + 1) i0 (by omega) (by omega)
          omega) (fun i j hi hj => by
        split <;> split <;> first | omega | exact hd _ _ (by omega) (by omega))
      omega
    · have := pigeon h n f (fun i hi => by
        have := hb i hi
        have : f i ≠ h := fun e => ex ⟨i, hi, e⟩
        omega) hd
      omega
theorem okAt_lt {b : BookD} {r : RingD} {k : Nat} (h : okAt b r k) : (r.cons.getD k 0).toNat < b.cons.length ∧ r.cons.getD k 0 = ((r.cons.getD k 0).toNat : Int) := by
  unfold okAt at h
  omega
theorem ring_len {b : BookD} {r : RingD} (hv : VBook b) (h : isRing b r) : (r.cons.length : Int) ≤ b.houses := by
  obtain ⟨_, _, h3, _, h5⟩ := h
  have hh := hv.houses
  have := pigeon b.houses.toNat r.cons.length (fun k => (cAt b r k).frm.toNat) (fun k hk => by
    have := hv.frm _ (okAt_lt (h3 k hk)).1
    show (cAt b r k).frm.toNat < _
    unfold cAt
    omega) (fun i j hi hj => by
    have h1 := hv.frm _ (okAt_lt (h3 i hi)).1
    have h2 := hv.frm _ (okAt_lt (h3 j (by omega))).1
    have := h5 i j hi hj
    show (cAt b r j).frm.toNat ≠ (cAt b r i).frm.toNat
    unfold cAt at this ⊢
    omega)
  omega
def ringL (cp : Bool) (r : RingD) : List Tr := [intsT cp r.cons, .sc (.int .i64 r.amount)]
abbrev ringA (cp : Bool) (r : RingD) : AV := .ag [.t (intsT cp r.cons), intA r.amount]
def ringsT (cp cp' : Bool) (rs : List RingD) : Tr := .sl cp 2 rs.length (fun k => ringL cp' (rs.getD k default))
abbrev ringE (g T : Nat) (cp : Bool) (r : RingD) : Ent := .cl g T [.t (intsT cp r.cons), intA r.amount]
/-- the houses that have been met -/
def metL (l : List Int) : List (Int × AV) := l.map fun x => (x, boolA true)
theorem met_look (l : List Int) (x : Int) : (lookG (metL l) x).getD (boolA false) = boolA (decide (x ∈ l)) := by
  induction l with
  | nil => rfl
  | cons y l ih =>
    simp only [metL, List.map_cons, lookG]
    by_cases e : x = y
    · subst e; simp
    · rw [if_neg e]
      have := ih
      unfold metL at this
      rw [this]
      simp [e]
theorem met_upd (l : List Int) (x : Int) (h : x ∉ l) : updG (metL l) x (boolA true) = metL (l ++ [x]) := by
  induction l with
  | nil => rfl
  | cons y l ih =>
    rw [List.mem_cons, not_or] at h
    simp only [metL, List.map_cons, updG, List.cons_append]
    rw [if_neg h.1]
    have := ih h.2
    unfold metL at this
    rw [this]
attribute [local irreducible] AWP AWL AOp PV LV AWT AWE
section
variable {b : BookD} {r : RingD} {cp c1 : Bool} {g2 g3 g8 gm k q j jn n ji : Nat} {iv nv : Int} {l : List Int} {u : AV} {c : ConD}
theorem rr_12 (hk : k < r.cons.length) (hl : r.cons.length ≤ 1000) (hj : (r.cons.getD k 0).toNat = j) (h0 : 0 ≤ r.cons.getD k 0) (hjl : j < b.cons.length) {ops : Array Oper} (h : regF Try.f76 12 = some ops) :
    AWP Try.prog Try.f76.ntmps none (.region 12 ops true) (cutQ (fun s h => ∃ g8, s = [(8, .v (ptrV g8)), (2, .v (ptrV g2)), (3, .v (ptrV g3)), (5, u), (7, intA k)] ∧ h = [refB g2 b, ringE g3 74 c1 r, .cl g8 67 [intA (b.cons.getD j default).frm, intA (b.cons.getD j default).to, intA (b.cons.getD j default).num, intA (b.cons.getD j default).price]])) [(2, .v (ptrV g2)), (3, .v (ptrV g3)), (5, u), (7, intA k)] [refB g2 b, ringE g3 74 c1 r] := by
  cases h
  refine awp_tree T0 [(0, 0), (1, 1), (2, 0), (3, 1), (4, 0), (5, 0), (6, 1), (7, 0), (8, 1), (9, 2), (10, 3)] (.op 0 0 (.op 1 1 (.op 2 0 (.op 3 1 (.op 4 0 (.op 5 0 (.op 6 1 (.op 7 0 (.op 8 1 (.op 9 2 (.op 10 3 .stop))))))))))) [.cl g2 _ _, .cl g3 _ _] rfl (by kernel_rfl) (by solve | repeat' constructor) ?_
  refine awt_po rfl (wt_none rfl) (pv_fa T0 rfl rfl rfl (by simp; rfl)) rfl rfl ?_
  refine awt_lo rfl (wt_none rfl) (lv_cl1 T0 rfl rfl rfl (by solve | repeat' constructor) (by first | rfl | assumption)) rfl rfl rfl ?_
  refine awt_po rfl (wt_none rfl) (pv_fa T0 rfl rfl rfl (by simp; rfl)) rfl rfl ?_
  refine awt_lo rfl (wt_none rfl) (lv_cl1 T0 rfl rfl rfl (by solve | repeat' constructor) (by first | rfl | assumption)) rfl rfl rfl ?_
  refine awt_po rfl (wt_none rfl) (pv_move rfl rfl) rfl rfl ?_
  refine awt_po rfl (wt_none rfl) (pv_ix_t T0 rfl rfl rfl rfl (by omega) (by first | exact Int.toNat_natCast _ | rfl)) rfl rfl ?_
  refine awt_lo rfl (wt_none rfl) (lv_elt_sc T0 rfl rfl rfl rfl) rfl rfl rfl ?_
  refine awt_po rfl (wt_none rfl) (pv_ix_t T0 rfl rfl rfl rfl (by omega) hj) rfl rfl ?_
  refine awt_lo rfl (wt_none rfl) (lv_elt_ag T0 rfl rfl rfl rfl (by solve | repeat' constructor)) rfl rfl rfl ?_
  refine awt_h (hm := []) rfl (wt_none rfl) (by solve | repeat' constructor) rfl (st_alloc T0 rfl rfl rfl rfl (by simp only [Value.cells, List.toList_toArray, List.map_cons, List.map_nil]; rfl) ?_)
  intro g8
  refine awt_s (md := fun _ => True) rfl (wt_none rfl) (st_store T0 rfl rfl rfl rfl rfl (by first | assumption | (simp only [cellsA]; rfl)) rfl rfl rfl (by solve | repeat' constructor) (by solve | repeat' constructor) trivial ?_)
  refine awe_end ?_
  exact cut_n ⟨_, rfl, rfl⟩ (by first | ((repeat' (first | exact True.intro | refine ⟨rfl, ?_⟩)); all_goals fail) | fail) (by solve | repeat' constructor)
theorem rr_13 (hk : k < n) (hn : n = r.cons.length) (hl : r.cons.length ≤ 1000) (e1 : ((k : Int) + 1).tmod (n : Int) = (q : Int)) (hq : q < r.cons.length) (hj : (r.cons.getD q 0).toNat = j) (h0 : 0 ≤ r.cons.getD q 0) (hjl : j < b.cons.length) {ops : Array Oper} (h : regF Try.f76 13 = some ops) :
    AWP Try.prog Try.f76.ntmps none (.region 13 ops true) (cutQ (fun s h => s = [(76, boolA (decide ((b.cons.getD j default).frm ≠ c.to))), (8, .v (ptrV g8)), (2, .v (ptrV g2)), (3, .v (ptrV g3)), (5, intA n), (7, intA k)] ∧ h = [refB g2 b, ringE g3 74 c1 r, .cl g8 67 [intA c.frm, intA c.to, intA c.num, intA c.price]])) [(8, .v (ptrV g8)), (2, .v (ptrV g2)), (3, .v (ptrV g3)), (5, intA n), (7, intA k)] [refB g2 b, ringE g3 74 c1 r, .cl g8 67 [intA c.frm, intA c.to, intA c.num, intA c.price]] := by
  cases h
  refine awp_tree T0 [(0, 0), (1, 1), (2, 0), (3, 1), (4, 0), (5, 0), (6, 0), (7, 0), (8, 0), (9, 1), (10, 0), (11, 0), (12, 1), (13, 0), (14, 1), (15, 0)] (.op 0 0 (.op 1 1 (.op 2 0 (.op 3 1 (.op 4 0 (.op 5 0 (.op 6 0 (.op 7 0 (.op 8 0 (.op 9 1 (.op 10 0 (.op 11 0 (.op 12 1 (.op 13 0 (.op 14 1 (.op 15 0 .stop)))))))))))))))) [.cl g2 _ _, .cl g3 _ _, .cl g8 _ _] rfl (by kernel_rfl) (by solve | repeat' constructor) ?_
  refine awt_po rfl (wt_none rfl) (pv_fa T0 rfl rfl rfl (by simp; rfl)) rfl rfl ?_
  refine awt_lo rfl (wt_none rfl) (lv_cl1 T0 rfl rfl rfl (by solve | repeat' constructor) (by first | rfl | assumption)) rfl rfl rfl ?_
  refine awt_po rfl (wt_none rfl) (pv_fa T0 rfl rfl rfl (by simp; rfl)) rfl rfl ?_
  refine awt_lo rfl (wt_none rfl) (lv_cl1 T0 rfl rfl rfl (by solve | repeat' constructor) (by first | rfl | assumption)) rfl rfl rfl ?_
  refine awt_po rfl (wt_none rfl) (pv_move rfl rfl) rfl rfl ?_
  refine awt_po rfl (wt_none rfl) (pv_add rfl rfl rfl (by first | assumption | exact wr64 (by omega))) rfl rfl ?_
  refine awt_po rfl (wt_none rfl) (pv_move rfl rfl) rfl rfl ?_
  refine awt_po rfl (wt_none rfl) (pv_rem rfl rfl rfl (by omega) (by first | assumption | rfl)) rfl rfl ?_
  refine awt_po rfl (wt_none rfl) (pv_ix_t T0 rfl rfl rfl rfl (by omega) (by first | exact Int.toNat_natCast _ | rfl)) rfl rfl ?_
  refine awt_lo rfl (wt_none rfl) (lv_elt_sc T0 rfl rfl rfl rfl) rfl rfl rfl ?_
  refine awt_po rfl (wt_none rfl) (pv_ix_t T0 rfl rfl rfl rfl (by omega) hj) rfl rfl ?_
  refine awt_po rfl (wt_none rfl) (pv_fa_elt T0 rfl rfl rfl (by simp; rfl)) rfl rfl ?_
  refine awt_lo rfl (wt_none rfl) (lv_elt_sc T0 rfl rfl rfl rfl) rfl rfl rfl ?_
  refine awt_po rfl (wt_none rfl) (pv_fa T0 rfl rfl rfl (by simp; rfl)) rfl rfl ?_
  refine awt_lo rfl (wt_none rfl) (lv_cl1 T0 rfl rfl rfl (by solve | repeat' constructor) (by first | rfl | assumption)) rfl rfl rfl ?_
  refine awt_po rfl (wt_none rfl) (pv_neq rfl rfl rfl) rfl rfl ?_
  refine awt_end ?_
  exact cut_n ⟨rfl, rfl⟩ (by first | ((repeat' (first | exact True.intro | refine ⟨rfl, ?_⟩)); all_goals fail) | fail) (by solve | repeat' constructor)
theorem rr_18 (hk : k < r.cons.length) (hl : r.cons.length ≤ 1000) (hj : (r.cons.getD k 0).toNat = j) (h0 : 0 ≤ r.cons.getD k 0) (hjl : j < b.cons.length) {ops : Array Oper} (h : regF Try.f76 18 = some ops) :
    AWP Try.prog Try.f76.ntmps none (.region 18 ops true) (cutQ (fun s h => s = [(94, boolA (decide ((b.cons.getD j default).frm = c.frm))), (8, .v (ptrV g8)), (2, .v (ptrV g2)), (3, .v (ptrV g3)), (5, intA n), (7, u), (9, intA k)] ∧ h = [refB g2 b, ringE g3 74 c1 r, .cl g8 67 [intA c.frm, intA c.to, intA c.num, intA c.price]])) [(8, .v (ptrV g8)), (2, .v (ptrV g2)), (3, .v (ptrV g3)), (5, intA n), (7, u), (9, intA k)] [refB g2 b, ringE g3 74 c1 r, .cl g8 67 [intA c.frm, intA c.to, intA c.num, intA c.price]] := by
  cases h
  refine awp_tree T0 [(0, 0), (1, 1), (2, 0), (3, 1), (4, 0), (5, 0), (6, 1), (7, 0), (8, 0), (9, 1), (10, 0), (11, 1), (12, 0)] (.op 0 0 (.op 1 1 (.op 2 0 (.op 3 1 (.op 4 0 (.op 5 0 (.op 6 1 (.op 7 0 (.op 8 0 (.op 9 1 (.op 10 0 (.op 11 1 (.op 12 0 .stop))))))))))))) [.cl g2 _ _, .cl g3 _ _, .cl g8 _ _] rfl (by kernel_rfl) (by solve | repeat' constructor) ?_
  refine awt_po rfl (wt_none rfl) (pv_fa T0 rfl rfl rfl (by simp; rfl)) rfl rfl ?_
  refine awt_lo rfl (wt_none rfl) (lv_cl1 T0 rfl rfl rfl (by solve | repeat' constructor) (by first | rfl | assumption)) rfl rfl rfl ?_
  refine awt_po rfl (wt_none rfl) (pv_fa T0 rfl rfl rfl (by simp; rfl)) rfl rfl ?_
  refine awt_lo rfl (wt_none rfl) (lv_cl1 T0 rfl rfl rfl (by solve | repeat' constructor) (by first | rfl | assumption)) rfl rfl rfl ?_
  refine awt_po rfl (wt_none rfl) (pv_move rfl rfl) rfl rfl ?_
  refine awt_po rfl (wt_none rfl) (pv_ix_t T0 rfl rfl rfl rfl (by omega) (by first | exact Int.toNat_natCast _ | rfl)) rfl rfl ?_
  refine awt_lo rfl (wt_none rfl) (lv_elt_sc T0 rfl rfl rfl rfl) rfl rfl rfl ?_
  refine awt_po rfl (wt_none rfl) (pv_ix_t T0 rfl rfl rfl rfl (by omega) hj) rfl rfl ?_
  refine awt_po rfl (wt_none rfl) (pv_fa_elt T0 rfl rfl rfl (by simp; rfl)) rfl rfl ?_
  refine awt_lo rfl (wt_none rfl) (lv_elt_sc T0 rfl rfl rfl rfl) rfl rfl rfl ?_
  refine awt_po rfl (wt_none rfl) (pv_fa T0 rfl rfl rfl (by simp; rfl)) rfl rfl ?_
  refine awt_lo rfl (wt_none rfl) (lv_cl1 T0 rfl rfl rfl (by solve | repeat' constructor) (by first | rfl | assumption)) rfl rfl rfl ?_
  refine awt_po rfl (wt_none rfl) (pv_eql rfl rfl rfl) rfl rfl ?_
  refine awt_end ?_
  exact cut_n ⟨rfl, rfl⟩ (by first | ((repeat' (first | exact True.intro | refine ⟨rfl, ?_⟩)); all_goals fail) | fail) (by solve | repeat' constructor)
abbrev rgS (iv nv : Int) (c1 : Bool) (r : RingD) (g2 g3 gm k : Nat) : Slots := [(2, .v (ptrV g2)), (3, .v (ptrV g3)), (5, intA r.cons.length), (6, .v (.map (some gm))), (7, intA k), (8, intA iv), (9, intA nv), (23, .t (intsT c1 r.cons)), (24, intA r.cons.length), (25, intA k)]
abbrev rgH (b : BookD) (r : RingD) (cp c1 : Bool) (g2 g3 gm : Nat) (l : List Int) : List Ent := [.cl g2 33 [intA b.houses, .t (consT cp b.cons)], ringE g3 82 c1 r, mapG ikV gm (metL l)]
theorem rg_8 (hk : k < r.cons.length) (hl : r.cons.length ≤ 1000) (e1 : ((k : Int) + 1).tmod (r.cons.length : Int) = (q : Int)) (hq : q < r.cons.length) {ops : Array Oper} (h : regF Try.f86 8 = some ops) :
    AWP Try.prog Try.f86.ntmps none (.region 8 ops true) (cutQ (fun s h => s = rgS iv (r.cons.getD q 0) c1 r g2 g3 gm k ∧ h = rgH b r cp c1 g2 g3 gm l)) [(2, .v (ptrV g2)), (3, .v (ptrV g3)), (5, intA r.cons.length), (6, .v (.map (some gm))), (7, intA k), (8, intA iv), (23, .t (intsT c1 r.cons)), (24, intA r.cons.length), (25, intA k)] (rgH b r cp c1 g2 g3 gm l) := by
  cases h
  refine awp_tree T0 [(0, 0), (1, 1), (2, 0), (3, 0), (4, 0), (5, 0), (6, 0), (7, 1), (8, 0)] (.op 0 0 (.op 1 1 (.op 2 0 (.op 3 0 (.op 4 0 (.op 5 0 (.op 6 0 (.op 7 1 (.op 8 0 .stop))))))))) [.cl g3 _ _] rfl (by kernel_rfl) (by solve | repeat' constructor) ?_
  refine awt_po rfl (wt_none rfl) (pv_fa T0 rfl rfl rfl (by simp; rfl)) rfl rfl ?_
  refine awt_lo rfl (wt_none rfl) (lv_cl1 T0 rfl rfl rfl (by solve | repeat' constructor) (by first | rfl | assumption)) rfl rfl rfl ?_
  refine awt_po rfl (wt_none rfl) (pv_move rfl rfl) rfl rfl ?_
  refine awt_po rfl (wt_none rfl) (pv_add rfl rfl rfl (by first | assumption | exact wr64 (by omega))) rfl rfl ?_
  refine awt_po rfl (wt_none rfl) (pv_move rfl rfl) rfl rfl ?_
  refine awt_po rfl (wt_none rfl) (pv_rem rfl rfl rfl (by omega) (by first | assumption | rfl)) rfl rfl ?_
  refine awt_po rfl (wt_none rfl) (pv_ix_t T0 rfl rfl rfl rfl (by omega) (by first | exact Int.toNat_natCast _ | rfl)) rfl rfl ?_
  refine awt_lo rfl (wt_none rfl) (lv_elt_sc T0 rfl rfl rfl rfl) rfl rfl rfl ?_
  refine awt_po rfl (wt_none rfl) (pv_assign rfl rfl) rfl rfl ?_
  refine awt_end ?_
  exact cut_n ⟨rfl, rfl⟩ (by first | ((repeat' (first | exact True.intro | refine ⟨rfl, ?_⟩)); all_goals fail) | fail) (by solve | repeat' constructor)
theorem rg_9a (hb : b.cons.length ≤ 1000) (e1 : inB iv 0 (b.cons.length - 1) = false) {ops : Array Oper} (h : regF Try.f86 9 = some ops) :
    AWP Try.prog Try.f86.ntmps none (.region 9 ops true) (cutQ (fun s h => s = [(78, boolA true)] ∧ h = [])) (rgS iv nv c1 r g2 g3 gm k) (rgH b r cp c1 g2 g3 gm l) := by
  cases h
  refine awp_treeN T0 [(0, 0), (1, 0), (2, 1), (3, 0), (4, 0), (5, 2), (6, 0), (7, 0), (8, 0), (9, 0), (10, 1), (11, 0), (12, 0), (13, 2), (14, 0), (15, 0), (16, 0), (17, 0), (18, 1), (19, 0), (20, 0), (21, 0), (22, 1), (23, 0), (24, 1), (25, 0), (26, 0), (27, 0), (28, 1), (29, 0), (30, 0), (31, 0), (32, 0), (33, 0), (34, 1), (35, 0), (36, 0), (37, 0), (38, 1), (39, 1), (40, 0)] (.op 0 0 (.op 1 0 (.op 2 1 (.op 3 0 (.op 4 0 (.op 5 2 (.op 6 0 (.op 7 0 (.op 8 0 (.op 9 0 (.op 10 1 (.op 11 0 (.op 12 0 (.op 13 2 (.op 14 0 (.op 15 0 (.op 16 0 (.op 17 0 (.op 18 1 (.op 19 0 (.op 20 0 (.op 21 0 (.op 22 1 (.op 23 0 (.op 24 1 (.op 25 0 (.op 26 0 (.op 27 0 (.op 28 1 (.op 29 0 (.op 30 0 (.op 31 0 (.op 32 0 (.op 33 0 (.op 34 1 (.op 35 0 (.op 36 0 (.op 37 0 (.op 38 1 (.op 39 1 (.op 40 0 .stop))))))))))))))))))))))))))))))))))))))))) [.cl g2 _ _] rfl (by kernel_rfl) (by solve | repeat' constructor) ?_
  refine awt_po rfl (wt_none rfl) (pv_move rfl rfl) rfl rfl ?_
  refine awt_po rfl (wt_none rfl) (pv_fa T0 rfl rfl rfl (by simp; rfl)) rfl rfl ?_
  refine awt_lo rfl (wt_none rfl) (lv_cl1 T0 rfl rfl rfl (by solve | repeat' constructor) (by first | rfl | assumption)) rfl rfl rfl ?_
  refine awt_po rfl (wt_none rfl) (pv_len_t T0 rfl rfl rfl) rfl rfl ?_
  refine awt_po rfl (wt_none rfl) (pv_sub rfl rfl rfl (by first | assumption | exact wr64 (by omega))) rfl rfl ?_
  refine awt_h (hm := []) rfl (wt_none rfl) (by solve | repeat' constructor) rfl (st_call T0 (within_q e1) rfl rfl rfl rfl (by first | exact callee_lit | exact callee_v | exact callee_fn | assumption) (by solve | repeat' constructor) (by first | rfl | assumption) rfl ?_)
  rintro _ rfl
  refine awt_n1 rfl (wt_none rfl) (pv_not rfl rfl) rfl rfl rfl ?_
  refine awt_n1 rfl (wt_none rfl) (pv_move rfl rfl) rfl rfl rfl ?_
  refine awt_sk0 rfl (wf_some rfl rfl rfl rfl (by first | rfl | assumption | exact dT (by omega) | exact dF (by omega))) rfl rfl (fun _ _ h => h) rfl ?_
  refine awt_sk0 rfl (wf_some rfl rfl rfl rfl (by first | rfl | assumption | exact dT (by omega) | exact dF (by omega))) rfl rfl (fun _ _ h => h) rfl ?_
  refine awt_sk1 rfl (wf_some rfl rfl rfl rfl (by first | rfl | assumption | exact dT (by omega) | exact dF (by omega))) rfl rfl (fun _ _ h => h) rfl ?_
  refine awt_sk0 rfl (wf_some rfl rfl rfl rfl (by first | rfl | assumption | exact dT (by omega) | exact dF (by omega))) rfl rfl (fun _ _ h => h) rfl ?_
  refine awt_sk0 rfl (wf_some rfl rfl rfl rfl (by first | rfl | assumption | exact dT (by omega) | exact dF (by omega))) rfl rfl (fun _ _ h => h) rfl ?_
  refine awt_sk2 rfl (wf_some rfl rfl rfl rfl (by first | rfl | assumption | exact dT (by omega) | exact dF (by omega))) rfl rfl (fun _ _ h => h) rfl ?_
  refine awt_sk0 rfl (wf_some rfl rfl rfl rfl (by first | rfl | assumption | exact dT (by omega) | exact dF (by omega))) rfl rfl (fun _ _ h => h) rfl ?_
  refine awt_n1 rfl (wt_none rfl) (pv_pick_t rfl rfl (by first | rfl | assumption | exact dT (by omega) | exact dF (by omega)) rfl) rfl rfl rfl ?_
  refine awt_n1 rfl (wt_none rfl) (pv_move rfl rfl) rfl rfl rfl ?_
  refine awt_sk0 rfl (wf_some rfl rfl rfl rfl (by first | rfl | assumption | exact dT (by omega) | exact dF (by omega))) rfl rfl (fun _ _ h => h) rfl ?_
  refine awt_sk1 rfl (wf_some rfl rfl rfl rfl (by first | rfl | assumption | exact dT (by omega) | exact dF (by omega))) rfl rfl (fun _ _ h => h) rfl ?_
  refine awt_sk0 rfl (wf_some rfl rfl rfl rfl (by first | rfl | assumption | exact dT (by omega) | exact dF (by omega))) rfl rfl (fun _ _ h => h) rfl ?_
  refine awt_sk0 rfl (wf_some rfl rfl rfl rfl (by first | rfl | assumption | exact dT (by omega) | exact dF (by omega))) rfl rfl (fun _ _ h => h) rfl ?_
  refine awt_sk0 rfl (wf_some rfl rfl rfl rfl (by first | rfl | assumption | exact dT (by omega) | exact dF (by omega))) rfl rfl (fun _ _ h => h) rfl ?_
  refine awt_sk1 rfl (wf_some rfl rfl rfl rfl (by first | rfl | assumption | exact dT (by omega) | exact dF (by omega))) rfl rfl (fun _ _ h => h) rfl ?_
  refine awt_sk0 rfl (wf_some rfl rfl rfl rfl (by first | rfl | assumption | exact dT (by omega) | exact dF (by omega))) rfl rfl (fun _ _ h => h) rfl ?_
  refine awt_sk1 rfl (wf_some rfl rfl rfl rfl (by first | rfl | assumption | exact dT (by omega) | exact dF (by omega))) rfl rfl (fun _ _ h => h) rfl ?_
  refine awt_sk0 rfl (wf_some rfl rfl rfl rfl (by first | rfl | assumption | exact dT (by omega) | exact dF (by omega))) rfl rfl (fun _ _ h => h) rfl ?_
  refine awt_sk0 rfl (wf_some rfl rfl rfl rfl (by first | rfl | assumption | exact dT (by omega) | exact dF (by omega))) rfl rfl (fun _ _ h => h) rfl ?_
  refine awt_sk0 rfl (wf_some rfl rfl rfl rfl (by first | rfl | assumption | exact dT (by omega) | exact dF (by omega))) rfl rfl (fun _ _ h => h) rfl ?_
  refine awt_sk1 rfl (wf_some rfl rfl rfl rfl (by first | rfl | assumption | exact dT (by omega) | exact dF (by omega))) rfl rfl (fun _ _ h => h) rfl ?_
  refine awt_sk0 rfl (wf_some rfl rfl rfl rfl (by first | rfl | assumption | exact dT (by omega) | exact dF (by omega))) rfl rfl (fun _ _ h => h) rfl ?_
  refine awt_n1 rfl (wt_none rfl) (pv_pick_t rfl rfl (by first | rfl | assumption | exact dT (by omega) | exact dF (by omega)) rfl) rfl rfl rfl ?_
  refine awt_n1 rfl (wt_none rfl) (pv_move rfl rfl) rfl rfl rfl ?_
  refine awt_sk0 rfl (wf_some rfl rfl rfl rfl (by first | rfl | assumption | exact dT (by omega) | exact dF (by omega))) rfl rfl (fun _ _ h => h) rfl ?_
  refine awt_sk0 rfl (wf_some rfl rfl rfl rfl (by first | rfl | assumption | exact dT (by omega) | exact dF (by omega))) rfl rfl (fun _ _ h => h) rfl ?_
  refine awt_sk1 rfl (wf_some rfl rfl rfl rfl (by first | rfl | assumption | exact dT (by omega) | exact dF (by omega))) rfl rfl (fun _ _ h => h) rfl ?_
  refine awt_sk0 rfl (wf_some rfl rfl rfl rfl (by first | rfl | assumption | exact dT (by omega) | exact dF (by omega))) rfl rfl (fun _ _ h => h) rfl ?_
  refine awt_sk0 rfl (wf_some rfl rfl rfl rfl (by first | rfl | assumption | exact dT (by omega) | exact dF (by omega))) rfl rfl (fun _ _ h => h) rfl ?_
  refine awt_sk0 rfl (wf_some rfl rfl rfl rfl (by first | rfl | assumption | exact dT (by omega) | exact dF (by omega))) rfl rfl (fun _ _ h => h) rfl ?_
  refine awt_sk1 rfl (wf_some rfl rfl rfl rfl (by first | rfl | assumption | exact dT (by omega) | exact dF (by omega))) rfl rfl (fun _ _ h => h) rfl ?_
  refine awt_sk1 rfl (wf_some rfl rfl rfl rfl (by first | rfl | assumption | exact dT (by omega) | exact dF (by omega))) rfl rfl (fun _ _ h => h) rfl ?_
  refine awt_n1 rfl (wt_none rfl) (pv_pick_t rfl rfl (by first | rfl | assumption | exact dT (by omega) | exact dF (by omega)) rfl) rfl rfl rfl ?_
  refine awt_end ?_
  exact cut_n ⟨rfl, rfl⟩ (by first | ((repeat' (first | exact True.intro | refine ⟨rfl, ?_⟩)); all_goals fail) | fail) (by solve | repeat' constructor)
theorem rg_9b (hb : b.cons.length ≤ 1000) (e1 : inB iv 0 (b.cons.length - 1) = true) (e2 : inB nv 0 (b.cons.length - 1) = false) {ops : Array Oper} (h : regF Try.f86 9 = some ops) :
    AWP Try.prog Try.f86.ntmps none (.region 9 ops true) (cutQ (fun s h => s = [(78, boolA true)] ∧ h = [])) (rgS iv nv c1 r g2 g3 gm k) (rgH b r cp c1 g2 g3 gm l) := by
  cases h
  refine awp_treeN T0 [(0, 0), (1, 0), (2, 1), (3, 0), (4, 0), (5, 2), (6, 0), (7, 0), (8, 0), (9, 0), (10, 1), (11, 0), (12, 0), (13, 2), (14, 0), (15, 0), (16, 0), (17, 0), (18, 1), (19, 0), (20, 0), (21, 0), (22, 1), (23, 0), (24, 1), (25, 0), (26, 0), (27, 0), (28, 1), (29, 0), (30, 0), (31, 0), (32, 0), (33, 0), (34, 1), (35, 0), (36, 0), (37, 0), (38, 1), (39, 1), (40, 0)] (.op 0 0 (.op 1 0 (.op 2 1 (.op 3 0 (.op 4 0 (.op 5 2 (.op 6 0 (.op 7 0 (.op 8 0 (.op 9 0 (.op 10 1 (.op 11 0 (.op 12 0 (.op 13 2 (.op 14 0 (.op 15 0 (.op 16 0 (.op 17 0 (.op 18 1 (.op 19 0 (.op 20 0 (.op 21 0 (.op 22 1 (.op 23 0 (.op 24 1 (.op 25 0 (.op 26 0 (.op 27 0 (.op 28 1 (.op 29 0 (.op 30 0 (.op 31 0 (.op 32 0 (.op 33 0 (.op 34 1 (.op 35 0 (.op 36 0 (.op 37 0 (.op 38 1 (.op 39 1 (.op 40 0 .stop))))))))))))))))))))))))))))))))))))))))) [.cl g2 _ _] rfl (by kernel_rfl) (by solve | repeat' constructor) ?_
  refine awt_po rfl (wt_none rfl) (pv_move rfl rfl) rfl rfl ?_
  refine awt_po rfl (wt_none rfl) (pv_fa T0 rfl rfl rfl (by simp; rfl)) rfl rfl ?_
  refine awt_lo rfl (wt_none rfl) (lv_cl1 T0 rfl rfl rfl (by solve | repeat' constructor) (by first | rfl | assumption)) rfl rfl rfl ?_
  refine awt_po rfl (wt_none rfl) (pv_len_t T0 rfl rfl rfl) rfl rfl ?_
  refine awt_po rfl (wt_none rfl) (pv_sub rfl rfl rfl (by first | assumption | exact wr64 (by omega))) rfl rfl ?_
  refine awt_h (hm := []) rfl (wt_none rfl) (by solve | repeat' constructor) rfl (st_call T0 (within_q e1) rfl rfl rfl rfl (by first | exact callee_lit | exact callee_v | exact callee_fn | assumption) (by solve | repeat' constructor) (by first | rfl | assumption) rfl ?_)
  rintro _ rfl
  refine awt_n1 rfl (wt_none rfl) (pv_not rfl rfl) rfl rfl rfl ?_
  refine awt_n1 rfl (wt_none rfl) (pv_move rfl rfl) rfl rfl rfl ?_
  refine awt_po rfl (wt_some' rfl rfl rfl rfl (by first | rfl | assumption | exact dT (by omega) | exact dF (by omega))) (pv_move rfl rfl) rfl rfl ?_
  refine awt_po rfl (wt_some' rfl rfl rfl rfl (by first | rfl | assumption | exact dT (by omega) | exact dF (by omega))) (pv_fa T0 rfl rfl rfl (by simp; rfl)) rfl rfl ?_
  refine awt_lo rfl (wt_some' rfl rfl rfl rfl (by first | rfl | assumption | exact dT (by omega) | exact dF (by omega))) (lv_cl1 T0 rfl rfl rfl (by solve | repeat' constructor) (by first | rfl | assumption)) rfl rfl rfl ?_
  refine awt_po rfl (wt_some' rfl rfl rfl rfl (by first | rfl | assumption | exact dT (by omega) | exact dF (by omega))) (pv_len_t T0 rfl rfl rfl) rfl rfl ?_
  refine awt_po rfl (wt_some' rfl rfl rfl rfl (by first | rfl | assumption | exact dT (by omega) | exact dF (by omega))) (pv_sub rfl rfl rfl (by first | assumption | exact wr64 (by omega))) rfl rfl ?_
  refine awt_h (hm := []) rfl (wt_some' rfl rfl rfl rfl (by first | rfl | assumption | exact dT (by omega) | exact dF (by omega))) (by solve | repeat' constructor) rfl (st_call T0 (within_q e2) rfl rfl rfl rfl (by first | exact callee_lit | exact callee_v | exact callee_fn | assumption) (by solve | repeat' constructor) (by first | rfl | assumption) rfl ?_)
  rintro _ rfl
  refine awt_n1 rfl (wt_some' rfl rfl rfl rfl (by first | rfl | assumption | exact dT (by omega) | exact dF (by omega))) (pv_not rfl rfl) rfl rfl rfl ?_
  refine awt_n1 rfl (wt_none rfl) (pv_pick_f rfl rfl (by first | rfl | assumption | exact dT (by omega) | exact dF (by omega)) rfl) rfl rfl rfl ?_
  refine awt_n1 rfl (wt_none rfl) (pv_move rfl rfl) rfl rfl rfl ?_
  refine awt_sk0 rfl (wf_some rfl rfl rfl rfl (by first | rfl | assumption | exact dT (by omega) | exact dF (by omega))) rfl rfl (fun _ _ h => h) rfl ?_
  refine awt_sk1 rfl (wf_some rfl rfl rfl rfl (by first | rfl | assumption | exact dT (by omega) | exact dF (by omega))) rfl rfl (fun _ _ h => h) rfl ?_
  refine awt_sk0 rfl (wf_some rfl rfl rfl rfl (by first | rfl | assumption | exact dT (by omega) | exact dF (by omega))) rfl rfl (fun _ _ h => h) rfl ?_
  refine awt_sk0 rfl (wf_some rfl rfl rfl rfl (by first | rfl | assumption | exact dT (by omega) | exact dF (by omega))) rfl rfl (fun _ _ h => h) rfl ?_
  refine awt_sk0 rfl (wf_some rfl rfl rfl rfl (by first | rfl | assumption | exact dT (by omega) | exact dF (by omega))) rfl rfl (fun _ _ h => h) rfl ?_
  refine awt_sk1 rfl (wf_some rfl rfl rfl rfl (by first | rfl | assumption | exact dT (by omega) | exact dF (by omega))) rfl rfl (fun _ _ h => h) rfl ?_
  refine awt_sk0 rfl (wf_some rfl rfl rfl rfl (by first | rfl | assumption | exact dT (by omega) | exact dF (by omega))) rfl rfl (fun _ _ h => h) rfl ?_
  refine awt_sk1 rfl (wf_some rfl rfl rfl rfl (by first | rfl | assumption | exact dT (by omega) | exact dF (by omega))) rfl rfl (fun _ _ h => h) rfl ?_
  refine awt_sk0 rfl (wf_some rfl rfl rfl rfl (by first | rfl | assumption | exact dT (by omega) | exact dF (by omega))) rfl rfl (fun _ _ h => h) rfl ?_
  refine awt_sk0 rfl (wf_some rfl rfl rfl rfl (by first | rfl | assumption | exact dT (by omega) | exact dF (by omega))) rfl rfl (fun _ _ h => h) rfl ?_
  refine awt_sk0 rfl (wf_some rfl rfl rfl rfl (by first | rfl | assumption | exact dT (by omega) | exact dF (by omega))) rfl rfl (fun _ _ h => h) rfl ?_
  refine awt_sk1 rfl (wf_some rfl rfl rfl rfl (by first | rfl | assumption | exact dT (by omega) | exact dF (by omega))) rfl rfl (fun _ _ h => h) rfl ?_
  refine awt_sk0 rfl (wf_some rfl rfl rfl rfl (by first | rfl | assumption | exact dT (by omega) | exact dF (by omega))) rfl rfl (fun _ _ h => h) rfl ?_
  refine awt_n1 rfl (wt_none rfl) (pv_pick_t rfl rfl (by first | rfl | assumption | exact dT (by omega) | exact dF (by omega)) rfl) rfl rfl rfl ?_
  refine awt_n1 rfl (wt_none rfl) (pv_move rfl rfl) rfl rfl rfl ?_
  refine awt_sk0 rfl (wf_some rfl rfl rfl rfl (by first | rfl | assumption | exact dT (by omega) | exact dF (by omega))) rfl rfl (fun _ _ h => h) rfl ?_
  refine awt_sk0 rfl (wf_some rfl rfl rfl rfl (by first | rfl | assumption | exact dT (by omega) | exact dF (by omega))) rfl rfl (fun _ _ h => h) rfl ?_
  refine awt_sk1 rfl (wf_some rfl rfl rfl rfl (by first | rfl | assumption | exact dT (by omega) | exact dF (by omega))) rfl rfl (fun _ _ h => h) rfl ?_
  refine awt_sk0 rfl (wf_some rfl rfl rfl rfl (by first | rfl | assumption | exact dT (by omega) | exact dF (by omega))) rfl rfl (fun _ _ h => h) rfl ?_
  refine awt_sk0 rfl (wf_some rfl rfl rfl rfl (by first | rfl | assumption | exact dT (by omega) | exact dF (by omega))) rfl rfl (fun _ _ h => h) rfl ?_
  refine awt_sk0 rfl (wf_some rfl rfl rfl rfl (by first | rfl | assumption | exact dT (by omega) | exact dF (by omega))) rfl rfl (fun _ _ h => h) rfl ?_
  refine awt_sk1 rfl (wf_some rfl rfl rfl rfl (by first | rfl | assumption | exact dT (by omega) | exact dF (by omega))) rfl rfl (fun _ _ h => h) rfl ?_
  refine awt_sk1 rfl (wf_some rfl rfl rfl rfl (by first | rfl | assumption | exact dT (by omega) | exact dF (by omega))) rfl rfl (fun _ _ h => h) rfl ?_
  refine awt_n1 rfl (wt_none rfl) (pv_pick_t rfl rfl (by first | rfl | assumption | exact dT (by omega) | exact dF (by omega)) rfl) rfl rfl rfl ?_
  refine awt_end ?_
  exact cut_n ⟨rfl, rfl⟩ (by first | ((repeat' (first | exact True.intro | refine ⟨rfl, ?_⟩)); all_goals fail) | fail) (by solve | repeat' constructor)
theorem rg_9c (hb : b.cons.length ≤ 1000) (e1 : inB iv 0 (b.cons.length - 1) = true) (e2 : inB nv 0 (b.cons.length - 1) = true) (hi0 : 0 ≤ iv) (hn0 : 0 ≤ nv) (hi : iv.toNat = ji) (hj : nv.toNat = jn) (hil : ji < b.cons.length) (hjl : jn < b.cons.length) (e3 : decide ((b.cons.getD ji default).to ≠ (b.cons.getD jn default).frm) = true) {ops : Array Oper} (h : regF Try.f86 9 = some ops) :
    AWP Try.prog Try.f86.ntmps none (.region 9 ops true) (cutQ (fun s h => s = [(78, boolA true)] ∧ h = [])) (rgS iv nv c1 r g2 g3 gm k) (rgH b r cp c1 g2 g3 gm l) := by
  cases h
  refine awp_treeN T0 [(0, 0), (1, 0), (2, 1), (3, 0), (4, 0), (5, 2), (6, 0), (7, 0), (8, 0), (9, 0), (10, 1), (11, 0), (12, 0), (13, 2), (14, 0), (15, 0), (16, 0), (17, 0), (18, 1), (19, 0), (20, 0), (21, 0), (22, 1), (23, 0), (24, 1), (25, 0), (26, 0), (27, 0), (28, 1), (29, 0), (30, 0), (31, 0), (32, 0), (33, 0), (34, 1), (35, 0), (36, 0), (37, 0), (38, 1), (39, 1), (40, 0)] (.op 0 0 (.op 1 0 (.op 2 1 (.op 3 0 (.op 4 0 (.op 5 2 (.op 6 0 (.op 7 0 (.op 8 0 (.op 9 0 (.op 10 1 (.op 11 0 (.op 12 0 (.op 13 2 (.op 14 0 (.op 15 0 (.op 16 0 (.op 17 0 (.op 18 1 (.op 19 0 (.op 20 0 (.op 21 0 (.op 22 1 (.op 23 0 (.op 24 1 (.op 25 0 (.op 26 0 (.op 27 0 (.op 28 1 (.op 29 0 (.op 30 0 (.op 31 0 (.op 32 0 (.op 33 0 (.op 34 1 (.op 35 0 (.op 36 0 (.op 37 0 (.op 38 1 (.op 39 1 (.op 40 0 .stop))))))))))))))))))))))))))))))))))))))))) [.cl g2 _ _] rfl (by kernel_rfl) (by solve | repeat' constructor) ?_
  refine awt_po rfl (wt_none rfl) (pv_move rfl rfl) rfl rfl ?_
  refine awt_po rfl (wt_none rfl) (pv_fa T0 rfl rfl rfl (by simp; rfl)) rfl rfl ?_
  refine awt_lo rfl (wt_none rfl) (lv_cl1 T0 rfl rfl rfl (by solve | repeat' constructor) (by first | rfl | assumption)) rfl rfl rfl ?_
  refine awt_po rfl (wt_none rfl) (pv_len_t T0 rfl rfl rfl) rfl rfl ?_
  refine awt_po rfl (wt_none rfl) (pv_sub rfl rfl rfl (by first | assumption | exact wr64 (by omega))) rfl rfl ?_
  refine awt_h (hm := []) rfl (wt_none rfl) (by solve | repeat' constructor) rfl (st_call T0 (within_q e1) rfl rfl rfl rfl (by first | exact callee_lit | exact callee_v | exact callee_fn | assumption) (by solve | repeat' constructor) (by first | rfl | assumption) rfl ?_)
  rintro _ rfl
  refine awt_n1 rfl (wt_none rfl) (pv_not rfl rfl) rfl rfl rfl ?_
  refine awt_n1 rfl (wt_none rfl) (pv_move rfl rfl) rfl rfl rfl ?_
  refine awt_po rfl (wt_some' rfl rfl rfl rfl (by first | rfl | assumption | exact dT (by omega) | exact dF (by omega))) (pv_move rfl rfl) rfl rfl ?_
  refine awt_po rfl (wt_some' rfl rfl rfl rfl (by first | rfl | assumption | exact dT (by omega) | exact dF (by omega))) (pv_fa T0 rfl rfl rfl (by simp; rfl)) rfl rfl ?_
  refine awt_lo rfl (wt_some' rfl rfl rfl rfl (by first | rfl | assumption | exact dT (by omega) | exact dF (by omega))) (lv_cl1 T0 rfl rfl rfl (by solve | repeat' constructor) (by first | rfl | assumption)) rfl rfl rfl ?_
  refine awt_po rfl (wt_some' rfl rfl rfl rfl (by first | rfl | assumption | exact dT (by omega) | exact dF (by omega))) (pv_len_t T0 rfl rfl rfl) rfl rfl ?_
  refine awt_po rfl (wt_some' rfl rfl rfl rfl (by first | rfl | assumption | exact dT (by omega) | exact dF (by omega))) (pv_sub rfl rfl rfl (by first | assumption | exact wr64 (by omega))) rfl rfl ?_
  refine awt_h (hm := []) rfl (wt_some' rfl rfl rfl rfl (by first | rfl | assumption | exact dT (by omega) | exact dF (by omega))) (by solve | repeat' constructor) rfl (st_call T0 (within_q e2) rfl rfl rfl rfl (by first | exact callee_lit | exact callee_v | exact callee_fn | assumption) (by solve | repeat' constructor) (by first | rfl | assumption) rfl ?_)
  rintro _ rfl
  refine awt_n1 rfl (wt_some' rfl rfl rfl rfl (by first | rfl | assumption | exact dT (by omega) | exact dF (by omega))) (pv_not rfl rfl) rfl rfl rfl ?_
  refine awt_n1 rfl (wt_none rfl) (pv_pick_f rfl rfl (by first | rfl | assumption | exact dT (by omega) | exact dF (by omega)) rfl) rfl rfl rfl ?_
  refine awt_n1 rfl (wt_none rfl) (pv_move rfl rfl) rfl rfl rfl ?_
  refine awt_po rfl (wt_some' rfl rfl rfl rfl (by first | rfl | assumption | exact dT (by omega) | exact dF (by omega))) (pv_fa T0 rfl rfl rfl (by simp; rfl)) rfl rfl ?_
  refine awt_lo rfl (wt_some' rfl rfl rfl rfl (by first | rfl | assumption | exact dT (by omega) | exact dF (by omega))) (lv_cl1 T0 rfl rfl rfl (by solve | repeat' constructor) (by first | rfl | assumption)) rfl rfl rfl ?_
  refine awt_po rfl (wt_some' rfl rfl rfl rfl (by first | rfl | assumption | exact dT (by omega) | exact dF (by omega))) (pv_move rfl rfl) rfl rfl ?_
  refine awt_po rfl (wt_some' rfl rfl rfl rfl (by first | rfl | assumption | exact dT (by omega) | exact dF (by omega))) (pv_ix_t T0 rfl rfl rfl rfl (by omega) hi) rfl rfl ?_
  refine awt_po rfl (wt_some' rfl rfl rfl rfl (by first | rfl | assumption | exact dT (by omega) | exact dF (by omega))) (pv_fa_elt T0 rfl rfl rfl (by simp; rfl)) rfl rfl ?_
  refine awt_lo rfl (wt_some' rfl rfl rfl rfl (by first | rfl | assumption | exact dT (by omega) | exact dF (by omega))) (lv_elt_sc T0 rfl rfl rfl rfl) rfl rfl rfl ?_
  refine awt_po rfl (wt_some' rfl rfl rfl rfl (by first | rfl | assumption | exact dT (by omega) | exact dF (by omega))) (pv_fa T0 rfl rfl rfl (by simp; rfl)) rfl rfl ?_
  refine awt_lo rfl (wt_some' rfl rfl rfl rfl (by first | rfl | assumption | exact dT (by omega) | exact dF (by omega))) (lv_cl1 T0 rfl rfl rfl (by solve | repeat' constructor) (by first | rfl | assumption)) rfl rfl rfl ?_
  refine awt_po rfl (wt_some' rfl rfl rfl rfl (by first | rfl | assumption | exact dT (by omega) | exact dF (by omega))) (pv_move rfl rfl) rfl rfl ?_
  refine awt_po rfl (wt_some' rfl rfl rfl rfl (by first | rfl | assumption | exact dT (by omega) | exact dF (by omega))) (pv_ix_t T0 rfl rfl rfl rfl (by omega) hj) rfl rfl ?_
  refine awt_po rfl (wt_some' rfl rfl rfl rfl (by first | rfl | assumption | exact dT (by omega) | exact dF (by omega))) (pv_fa_elt T0 rfl rfl rfl (by simp; rfl)) rfl rfl ?_
  refine awt_lo rfl (wt_some' rfl rfl rfl rfl (by first | rfl | assumption | exact dT (by omega) | exact dF (by omega))) (lv_elt_sc T0 rfl rfl rfl rfl) rfl rfl rfl ?_
  refine awt_po rfl (wt_some' rfl rfl rfl rfl (by first | rfl | assumption | exact dT (by omega) | exact dF (by omega))) (pv_neq rfl rfl rfl) rfl rfl ?_
  refine awt_n1 rfl (wt_none rfl) (pv_pick_f rfl rfl (by first | rfl | assumption | exact dT (by omega) | exact dF (by omega)) rfl) rfl rfl rfl ?_
  refine awt_n1 rfl (wt_none rfl) (pv_move rfl rfl) rfl rfl rfl ?_
  refine awt_sk0 rfl (wf_some rfl rfl rfl rfl (by first | rfl | assumption | exact dT (by omega) | exact dF (by omega))) rfl rfl (fun _ _ h => h) rfl ?_
  refine awt_sk0 rfl (wf_some rfl rfl rfl rfl (by first | rfl | assumption | exact dT (by omega) | exact dF (by omega))) rfl rfl (fun _ _ h => h) rfl ?_
  refine awt_sk1 rfl (wf_some rfl rfl rfl rfl (by first | rfl | assumption | exact dT (by omega) | exact dF (by omega))) rfl rfl (fun _ _ h => h) rfl ?_
  refine awt_sk0 rfl (wf_some rfl rfl rfl rfl (by first | rfl | assumption | exact dT (by omega) | exact dF (by omega))) rfl rfl (fun _ _ h => h) rfl ?_
  refine awt_sk0 rfl (wf_some rfl rfl rfl rfl (by first | rfl | assumption | exact dT (by omega) | exact dF (by omega))) rfl rfl (fun _ _ h => h) rfl ?_
  refine awt_sk0 rfl (wf_some rfl rfl rfl rfl (by first | rfl | assumption | exact dT (by omega) | exact dF (by omega))) rfl rfl (fun _ _ h => h) rfl ?_
  refine awt_sk1 rfl (wf_some rfl rfl rfl rfl (by first | rfl | assumption | exact dT (by omega) | exact dF (by omega))) rfl rfl (fun _ _ h => h) rfl ?_
  refine awt_sk1 rfl (wf_some rfl rfl rfl rfl (by first | rfl | assumption | exact dT (by omega) | exact dF (by omega))) rfl rfl (fun _ _ h => h) rfl ?_
  refine awt_n1 rfl (wt_none rfl) (pv_pick_t rfl rfl (by first | rfl | assumption | exact dT (by omega) | exact dF (by omega)) rfl) rfl rfl rfl ?_
  refine awt_end ?_
  exact cut_n ⟨rfl, rfl⟩ (by first | ((repeat' (first | exact True.intro | refine ⟨rfl, ?_⟩)); all_goals fail) | fail) (by solve | repeat' constructor)
theorem rg_9d (hb : b.cons.length ≤ 1000) (e1 : inB iv 0 (b.cons.length - 1) = true) (e2 : inB nv 0 (b.cons.length - 1) = true) (hi0 : 0 ≤ iv) (hn0 : 0 ≤ nv) (hi : iv.toNat = ji) (hj : nv.toNat = jn) (hil : ji < b.cons.length) (hjl : jn < b.cons.length) (e3 : decide ((b.cons.getD ji default).to ≠ (b.cons.getD jn default).frm) = false) {m : Bool} (hm : decide ((b.cons.getD ji default).frm ∈ l) = m) {ops : Array Oper} (h : regF Try.f86 9 = some ops) :
    AWP Try.prog Try.f86.ntmps none (.region 9 ops true) (cutQ (fun s h => s = (78, boolA m) :: rgS iv nv c1 r g2 g3 gm k ∧ h = rgH b r cp c1 g2 g3 gm l)) (rgS iv nv c1 r g2 g3 gm k) (rgH b r cp c1 g2 g3 gm l) := by
  cases h
  have hlk := met_look l (b.cons.getD ji default).frm
  rw [hm] at hlk
  refine awp_treeN T0 [(0, 0), (1, 0), (2, 1), (3, 0), (4, 0), (5, 2), (6, 0), (7, 0), (8, 0), (9, 0), (10, 1), (11, 0), (12, 0), (13, 2), (14, 0), (15, 0), (16, 0), (17, 0), (18, 1), (19, 0), (20, 0), (21, 0), (22, 1), (23, 0), (24, 1), (25, 0), (26, 0), (27, 0), (28, 1), (29, 0), (30, 0), (31, 0), (32, 0), (33, 0), (34, 1), (35, 0), (36, 0), (37, 0), (38, 1), (39, 1), (40, 0)] (.op 0 0 (.op 1 0 (.op 2 1 (.op 3 0 (.op 4 0 (.op 5 2 (.op 6 0 (.op 7 0 (.op 8 0 (.op 9 0 (.op 10 1 (.op 11 0 (.op 12 0 (.op 13 2 (.op 14 0 (.op 15 0 (.op 16 0 (.op 17 0 (.op 18 1 (.op 19 0 (.op 20 0 (.op 21 0 (.op 22 1 (.op 23 0 (.op 24 1 (.op 25 0 (.op 26 0 (.op 27 0 (.op 28 1 (.op 29 0 (.op 30 0 (.op 31 0 (.op 32 0 (.op 33 0 (.op 34 1 (.op 35 0 (.op 36 0 (.op 37 0 (.op 38 1 (.op 39 1 (.op 40 0 .stop))))))))))))))))))))))))))))))))))))))))) [.cl g2 _ _, mapG ikV gm (metL l)] rfl (by kernel_rfl) (by solve | repeat' constructor) ?_
  refine awt_po rfl (wt_none rfl) (pv_move rfl rfl) rfl rfl ?_
  refine awt_po rfl (wt_none rfl) (pv_fa T0 rfl rfl rfl (by simp; rfl)) rfl rfl ?_
  refine awt_lo rfl (wt_none rfl) (lv_cl1 T0 rfl rfl rfl (by solve | repeat' constructor) (by first | rfl | assumption)) rfl rfl rfl ?_
  refine awt_po rfl (wt_none rfl) (pv_len_t T0 rfl rfl rfl) rfl rfl ?_
  refine awt_po rfl (wt_none rfl) (pv_sub rfl rfl rfl (by first | assumption | exact wr64 (by omega))) rfl rfl ?_
  refine awt_h (hm := []) rfl (wt_none rfl) (by solve | repeat' constructor) rfl (st_call T0 (within_q e1) rfl rfl rfl rfl (by first | exact callee_lit | exact callee_v | exact callee_fn | assumption) (by solve | repeat' constructor) (by first | rfl | assumption) rfl ?_)
  rintro _ rfl
  refine awt_n1 rfl (wt_none rfl) (pv_not rfl rfl) rfl rfl rfl ?_
  refine awt_n1 rfl (wt_none rfl) (pv_move rfl rfl) rfl rfl rfl ?_
  refine awt_po rfl (wt_some' rfl rfl rfl rfl (by first | rfl | assumption | exact dT (by omega) | exact dF (by omega))) (pv_move rfl rfl) rfl rfl ?_
  refine awt_po rfl (wt_some' rfl rfl rfl rfl (by first | rfl | assumption | exact dT (by omega) | exact dF (by omega))) (pv_fa T0 rfl rfl rfl (by simp; rfl)) rfl rfl ?_
  refine awt_lo rfl (wt_some' rfl rfl rfl rfl (by first | rfl | assumption | exact dT (by omega) | exact dF (by omega))) (lv_cl1 T0 rfl rfl rfl (by solve | repeat' constructor) (by first | rfl | assumption)) rfl rfl rfl ?_
  refine awt_po rfl (wt_some' rfl rfl rfl rfl (by first | rfl | assumption | exact dT (by omega) | exact dF (by omega))) (pv_len_t T0 rfl rfl rfl) rfl rfl ?_
  refine awt_po rfl (wt_some' rfl rfl rfl rfl (by first | rfl | assumption | exact dT (by omega) | exact dF (by omega))) (pv_sub rfl rfl rfl (by first | assumption | exact wr64 (by omega))) rfl rfl ?_
  refine awt_h (hm := []) rfl (wt_some' rfl rfl rfl rfl (by first | rfl | assumption | exact dT (by omega) | exact dF (by omega))) (by solve | repeat' constructor) rfl (st_call T0 (within_q e2) rfl rfl rfl rfl (by first | exact callee_lit | exact callee_v | exact callee_fn | assumption) (by solve | repeat' constructor) (by first | rfl | assumption) rfl ?_)
  rintro _ rfl
  refine awt_n1 rfl (wt_some' rfl rfl rfl rfl (by first | rfl | assumption | exact dT (by omega) | exact dF (by omega))) (pv_not rfl rfl) rfl rfl rfl ?_
  refine awt_n1 rfl (wt_none rfl) (pv_pick_f rfl rfl (by first | rfl | assumption | exact dT (by omega) | exact dF (by omega)) rfl) rfl rfl rfl ?_
  refine awt_n1 rfl (wt_none rfl) (pv_move rfl rfl) rfl rfl rfl ?_
  refine awt_po rfl (wt_some' rfl rfl rfl rfl (by first | rfl | assumption | exact dT (by omega) | exact dF (by omega))) (pv_fa T0 rfl rfl rfl (by simp; rfl)) rfl rfl ?_
  refine awt_lo rfl (wt_some' rfl rfl rfl rfl (by first | rfl | assumption | exact dT (by omega) | exact dF (by omega))) (lv_cl1 T0 rfl rfl rfl (by solve | repeat' constructor) (by first | rfl | assumption)) rfl rfl rfl ?_
  refine awt_po rfl (wt_some' rfl rfl rfl rfl (by first | rfl | assumption | exact dT (by omega) | exact dF (by omega))) (pv_move rfl rfl) rfl rfl ?_
  refine awt_po rfl (wt_some' rfl rfl rfl rfl (by first | rfl | assumption | exact dT (by omega) | exact dF (by omega))) (pv_ix_t T0 rfl rfl rfl rfl (by omega) hi) rfl rfl ?_
  refine awt_po rfl (wt_some' rfl rfl rfl rfl (by first | rfl | assumption | exact dT (by omega) | exact dF (by omega))) (pv_fa_elt T0 rfl rfl rfl (by simp; rfl)) rfl rfl ?_
  refine awt_lo rfl (wt_some' rfl rfl rfl rfl (by first | rfl | assumption | exact dT (by omega) | exact dF (by omega))) (lv_elt_sc T0 rfl rfl rfl rfl) rfl rfl rfl ?_
  refine awt_po rfl (wt_some' rfl rfl rfl rfl (by first | rfl | assumption | exact dT (by omega) | exact dF (by omega))) (pv_fa T0 rfl rfl rfl (by simp; rfl)) rfl rfl ?_
  refine awt_lo rfl (wt_some' rfl rfl rfl rfl (by first | rfl | assumption | exact dT (by omega) | exact dF (by omega))) (lv_cl1 T0 rfl rfl rfl (by solve | repeat' constructor) (by first | rfl | assumption)) rfl rfl rfl ?_
  refine awt_po rfl (wt_some' rfl rfl rfl rfl (by first | rfl | assumption | exact dT (by omega) | exact dF (by omega))) (pv_move rfl rfl) rfl rfl ?_
  refine awt_po rfl (wt_some' rfl rfl rfl rfl (by first | rfl | assumption | exact dT (by omega) | exact dF (by omega))) (pv_ix_t T0 rfl rfl rfl rfl (by omega) hj) rfl rfl ?_
  refine awt_po rfl (wt_some' rfl rfl rfl rfl (by first | rfl | assumption | exact dT (by omega) | exact dF (by omega))) (pv_fa_elt T0 rfl rfl rfl (by simp; rfl)) rfl rfl ?_
  refine awt_lo rfl (wt_some' rfl rfl rfl rfl (by first | rfl | assumption | exact dT (by omega) | exact dF (by omega))) (lv_elt_sc T0 rfl rfl rfl rfl) rfl rfl rfl ?_
  refine awt_po rfl (wt_some' rfl rfl rfl rfl (by first | rfl | assumption | exact dT (by omega) | exact dF (by omega))) (pv_neq rfl rfl rfl) rfl rfl ?_
  refine awt_n1 rfl (wt_none rfl) (pv_pick_f rfl rfl (by first | rfl | assumption | exact dT (by omega) | exact dF (by omega)) rfl) rfl rfl rfl ?_
  refine awt_n1 rfl (wt_none rfl) (pv_move rfl rfl) rfl rfl rfl ?_
  refine awt_po rfl (wt_some' rfl rfl rfl rfl (by first | rfl | assumption | exact dT (by omega) | exact dF (by omega))) (pv_move rfl rfl) rfl rfl ?_
  refine awt_po rfl (wt_some' rfl rfl rfl rfl (by first | rfl | assumption | exact dT (by omega) | exact dF (by omega))) (pv_fa T0 rfl rfl rfl (by simp; rfl)) rfl rfl ?_
  refine awt_lo rfl (wt_some' rfl rfl rfl rfl (by first | rfl | assumption | exact dT (by omega) | exact dF (by omega))) (lv_cl1 T0 rfl rfl rfl (by solve | repeat' constructor) (by first | rfl | assumption)) rfl rfl rfl ?_
  refine awt_po rfl (wt_some' rfl rfl rfl rfl (by first | rfl | assumption | exact dT (by omega) | exact dF (by omega))) (pv_move rfl rfl) rfl rfl ?_
  refine awt_po rfl (wt_some' rfl rfl rfl rfl (by first | rfl | assumption | exact dT (by omega) | exact dF (by omega))) (pv_ix_t T0 rfl rfl rfl rfl (by omega) hi) rfl rfl ?_
  refine awt_po rfl (wt_some' rfl rfl rfl rfl (by first | rfl | assumption | exact dT (by omega) | exact dF (by omega))) (pv_fa_elt T0 rfl rfl rfl (by simp; rfl)) rfl rfl ?_
  refine awt_lo rfl (wt_some' rfl rfl rfl rfl (by first | rfl | assumption | exact dT (by omega) | exact dF (by omega))) (lv_elt_sc T0 rfl rfl rfl rfl) rfl rfl rfl ?_
  refine awt_lo rfl (wt_some' rfl rfl rfl rfl (by first | rfl | assumption | exact dT (by omega) | exact dF (by omega))) (lv_lookupG Mi rfl rfl rfl rfl (by solve | repeat' constructor) hlk) rfl rfl rfl ?_
  refine awt_n1 rfl (wt_none rfl) (pv_pick_f rfl rfl (by first | rfl | assumption | exact dT (by omega) | exact dF (by omega)) rfl) rfl rfl rfl ?_
  refine awt_end ?_
  exact cut_n ⟨rfl, rfl⟩ (by first | ((repeat' (first | exact True.intro | refine ⟨rfl, ?_⟩)); all_goals fail) | fail) (by solve | repeat' constructor)
end
end Go.Proofs.Ytilhflfbbfeakaa
