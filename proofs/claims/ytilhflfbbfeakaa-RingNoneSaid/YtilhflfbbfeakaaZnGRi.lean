/- Joined texts: Rs0, Rs, Rt0, Rt. -/
import Derived.Test.YtilhflfbbfeakaaZnGMp
section
namespace Go.Proofs.Ytilhflfbbfeakaa
open Go Go.RowKit Go.Tl
set_option linter.unusedVariables false
set_option linter.unusedSimpArgs false
set_option maxRecDepth 100000
set_option maxHeartbeats 4000000
structure RingD where
  cons : List Int
  amount : Int
  deriving Inhabited, DecidableEq
/-- the contract at a place of a ring -/
def cAt (b : BookD) (r : RingD) (k : Nat) : ConD := b.cons.getD (r.cons.getD k 0).toNat default
def okAt (b : BookD) (r : RingD) (k : Nat) : Prop := 0 ≤ r.cons.getD k 0 ∧ r.cons.getD k 0 ≤ b.cons.length - 1
def isRing (b : BookD) (r : RingD) : Prop := 2 ≤ r.cons.length ∧ (1 ≤ r.amount ∧ r.amount ≤ 100) ∧ (∀ k, k < r.cons.length → okAt b r k) ∧
  (∀ k, k < r.cons.length → (cAt b r k).to = (cAt b r ((k + 1) % r.cons.length)).frm) ∧ ∀ k m, k < r.cons.length → m < k → (cAt b r m).frm ≠ (cAt b r k).frm
noncomputable instance (b : BookD) (r : RingD) : Decidable (isRing b r) := Classical.propDecidable _
noncomputable def ringB (b : BookD) (r : RingD) : Bool := decide (isRing b r)
theorem ringB_t {b : BookD} {r : RingD} (h : isRing b r) : ringB b r = true := by unfold ringB; exact decide_eq_true h
theorem ringB_f {b : BookD} {r : RingD} (h : ¬ isRing b r) : ringB b r = false := by unfold ringB; exact decide_eq_false h
theorem ringB_iff {b : BookD} {r : RingD} : ringB b r = true ↔ isRing b r := by unfold ringB; exact decide_eq_true_iff
theorem okAt_lt {b : BookD} {r : RingD} {k : Nat} (h : okAt b r k) : (r.cons.getD k 0).toNat < b.cons.length ∧ r.cons.getD k 0 = ((r.cons.getD k 0).toNat : Int) := by
  unfold okAt at h
  omega
theorem ring_len {b : BookD} {r : RingD} (hv : VBook b) (h : isRing b r) : (r.cons.length : Int) ≤ b.houses := by
  obtain ⟨_, _, h3, _, h5⟩ := h
  have hh := hv.houses
  have := pigeon b.houses.toNat r.cons.length (fun k => (cAt b r k).frm.toNat) (fun k hk => by
    have := hv.frm _ (okAt_lt (h3 k hk)).1
    show (cAt b r k).frm.toNat < _
    unfold cAt
    omega) (fun i j hi hj => by
    have h1 := hv.frm _ (okAt_lt (h3 i hi)).1
    have h2 := hv.frm _ (okAt_lt (h3 j (by omega))).1
    have := h5 i j hi hj
    show (cAt b r j).frm.toNat ≠ (cAt b r i).frm.toNat
    unfold cAt at this ⊢
    omega)
  omega
def ringL (cp : Bool) (r : RingD) : List Tr := [intsT cp r.cons, .sc (.int .i64 r.amount)]
abbrev ringA (cp : Bool) (r : RingD) : AV := .ag [.t (intsT cp r.cons), intA r.amount]
def ringsT (cp cp' : Bool) (rs : List RingD) : Tr := .sl cp 2 rs.length (fun k => ringL cp' (rs.getD k default))
abbrev ringE (g T : Nat) (cp : Bool) (r : RingD) : Ent := .cl g T [.t (intsT cp r.cons), intA r.amount]
attribute [local irreducible] AWP AWL AOp PV LV AWT AWE
section
variable {b : BookD} {r : RingD} {cp c1 : Bool} {g2 g3 g8 gm k q j jn n ji : Nat} {iv nv : Int} {l : List Int} {u : AV} {c : ConD}
theorem rr_12 (hk : k < r.cons.length) (hl : r.cons.length ≤ 1000) (hj : (r.cons.getD k 0).toNat = j) (h0 : 0 ≤ r.cons.getD k 0) (hjl : j < b.cons.length) {ops : Array Oper} (h : regF Try.f76 12 = some ops) :
    AWP Try.prog Try.f76.ntmps none (.region 12 ops true) (cutQ (fun s h => ∃ g8, s = [(8, .v (ptrV g8)), (2, .v (ptrV g2)), (3, .v (ptrV g3)), (5, u), (7, intA k)] ∧ h = [refB g2 b, ringE g3 74 c1 r, .cl g8 67 [intA (b.cons.getD j default).frm, intA (b.cons.getD j default).to, intA (b.cons.getD j default).num, intA (b.cons.getD j default).price]])) [(2, .v (ptrV g2)), (3, .v (ptrV g3)), (5, u), (7, intA k)] [refB g2 b, ringE g3 74 c1 r] := by
  cases h
  refine awp_tree T0 [(0, 0), (1, 1), (2, 0), (3, 1), (4, 0), (5, 0), (6, 1), (7, 0), (8, 1), (9, 2), (10, 3)] (.op 0 0 (.op 1 1 (.op 2 0 (.op 3 1 (.op 4 0 (.op 5 0 (.op 6 1 (.op 7 0 (.op 8 1 (.op 9 2 (.op 10 3 .stop))))))))))) [.cl g2 _ _, .cl g3 _ _] rfl (by kernel_rfl) (by solve | repeat' constructor) ?_
  refine awt_po rfl (wt_none rfl) (pv_fa T0 rfl rfl rfl (by simp; rfl)) rfl rfl ?_
  refine awt_lo rfl (wt_none rfl) (lv_cl1 T0 rfl rfl rfl (by solve | repeat' constructor) (by first | rfl | assumption)) rfl rfl rfl ?_
  refine awt_po rfl (wt_none rfl) (pv_fa T0 rfl rfl rfl (by simp; rfl)) rfl rfl ?_
  refine awt_lo rfl (wt_none rfl) (lv_cl1 T0 rfl rfl rfl (by solve | repeat' constructor) (by first | rfl | assumption)) rfl rfl rfl ?_
  refine awt_po rfl (wt_none rfl) (pv_move rfl rfl) rfl rfl ?_
  refine awt_po rfl (wt_none rfl) (pv_ix_t T0 rfl rfl rfl rfl (by omega) (by first | exact Int.toNat_natCast _ | rfl)) rfl rfl ?_
  refine awt_lo rfl (wt_none rfl) (lv_elt_sc T0 rfl rfl rfl rfl) rfl rfl rfl ?_
  refine awt_po rfl (wt_none rfl) (pv_ix_t T0 rfl rfl rfl rfl (by omega) hj) rfl rfl ?_
  refine awt_lo rfl (wt_none rfl) (lv_elt_ag T0 rfl rfl rfl rfl (by solve | repeat' constructor)) rfl rfl rfl ?_
  refine awt_h (hm := []) rfl (wt_none rfl) (by solve | repeat' constructor) rfl (st_alloc T0 rfl rfl rfl rfl (by simp only [Value.cells, List.toList_toArray, List.map_cons, List.map_nil]; rfl) ?_)
  intro g8
  refine awt_s (md := fun _ => True) rfl (wt_none rfl) (st_store T0 rfl rfl rfl rfl rfl (by first | assumption | (simp only [cellsA]; rfl)) rfl rfl rfl (by solve | repeat' constructor) (by solve | repeat' constructor) trivial ?_)
  refine awe_end ?_
  exact cut_n ⟨_, rfl, rfl⟩ (by first | ((repeat' (first | exact True.intro | refine ⟨rfl, ?_⟩)); all_goals fail) | fail) (by solve | repeat' constructor)
theorem rr_13 (hk : k < n) (hn : n = r.cons.length) (hl : r.cons.length ≤ 1000) (e1 : ((k : Int) + 1).tmod (n : Int) = (q : Int)) (hq : q < r.cons.length) (hj : (r.cons.getD q 0).toNat = j) (h0 : 0 ≤ r.cons.getD q 0) (hjl : j < b.cons.length) {ops : Array Oper} (h : regF Try.f76 13 = some ops) :
    AWP Try.prog Try.f76.ntmps none (.region 13 ops true) (cutQ (fun s h => s = [(76, boolA (decide ((b.cons.getD j default).frm ≠ c.to))), (8, .v (ptrV g8)), (2, .v (ptrV g2)), (3, .v (ptrV g3)), (5, intA n), (7, intA k)] ∧ h = [refB g2 b, ringE g3 74 c1 r, .cl g8 67 [intA c.frm, intA c.to, intA c.num, intA c.price]])) [(8, .v (ptrV g8)), (2, .v (ptrV g2)), (3, .v (ptrV g3)), (5, intA n), (7, intA k)] [refB g2 b, ringE g3 74 c1 r, .cl g8 67 [intA c.frm, intA c.to, intA c.num, intA c.price]] := by
  cases h
  refine awp_tree T0 [(0, 0), (1, 1), (2, 0), (3, 1), (4, 0), (5, 0), (6, 0), (7, 0), (8, 0), (9, 1), (10, 0), (11, 0), (12, 1), (13, 0), (14, 1), (15, 0)] (.op 0 0 (.op 1 1 (.op 2 0 (.op 3 1 (.op 4 0 (.op 5 0 (.op 6 0 (.op 7 0 (.op 8 0 (.op 9 1 (.op 10 0 (.op 11 0 (.op 12 1 (.op 13 0 (.op 14 1 (.op 15 0 .stop)))))))))))))))) [.cl g2 _ _, .cl g3 _ _, .cl g8 _ _] rfl (by kernel_rfl) (by solve | repeat' constructor) ?_
  refine awt_po rfl (wt_none rfl) (pv_fa T0 rfl rfl rfl (by simp; rfl)) rfl rfl ?_
  refine awt_lo rfl (wt_none rfl) (lv_cl1 T0 rfl rfl rfl (by solve | repeat' constructor) (by first | rfl | assumption)) rfl rfl rfl ?_
  refine awt_po rfl (wt_none rfl) (pv_fa T0 rfl rfl rfl (by simp; rfl)) rfl rfl ?_
  refine awt_lo rfl (wt_none rfl) (lv_cl1 T0 rfl rfl rfl (by solve | repeat' constructor) (by first | rfl | assumption)) rfl rfl rfl ?_
  refine awt_po rfl (wt_none rfl) (pv_move rfl rfl) rfl rfl ?_
  refine awt_po rfl (wt_none rfl) (pv_add rfl rfl rfl (by first | assumption | exact wr64 (by omega))) rfl rfl ?_
  refine awt_po rfl (wt_none rfl) (pv_move rfl rfl) rfl rfl ?_
  refine awt_po rfl (wt_none rfl) (pv_rem rfl rfl rfl (by omega) (by first | assumption | rfl)) rfl rfl ?_
  refine awt_po rfl (wt_none rfl) (pv_ix_t T0 rfl rfl rfl rfl (by omega) (by first | exact Int.toNat_natCast _ | rfl)) rfl rfl ?_
  refine awt_lo rfl (wt_none rfl) (lv_elt_sc T0 rfl rfl rfl rfl) rfl rfl rfl ?_
  refine awt_po rfl (wt_none rfl) (pv_ix_t T0 rfl rfl rfl rfl (by omega) hj) rfl rfl ?_
  refine awt_po rfl (wt_none rfl) (pv_fa_elt T0 rfl rfl rfl (by simp; rfl)) rfl rfl ?_
  refine awt_lo rfl (wt_none rfl) (lv_elt_sc T0 rfl rfl rfl rfl) rfl rfl rfl ?_
  refine awt_po rfl (wt_none rfl) (pv_fa T0 rfl rfl rfl (by simp; rfl)) rfl rfl ?_
  refine awt_lo rfl (wt_none rfl) (lv_cl1 T0 rfl rfl rfl (by solve | repeat' constructor) (by first | rfl | assumption)) rfl rfl rfl ?_
  refine awt_po rfl (wt_none rfl) (pv_neq rfl rfl rfl) rfl rfl ?_
  refine awt_end ?_
  exact cut_n ⟨rfl, rfl⟩ (by first | ((repeat' (first | exact True.intro | refine ⟨rfl, ?_⟩)); all_goals fail) | fail) (by solve | repeat' constructor)
theorem rr_18 (hk : k < r.cons.length) (hl : r.cons.length ≤ 1000) (hj : (r.cons.getD k 0).toNat = j) (h0 : 0 ≤ r.cons.getD k 0) (hjl : j < b.cons.length) {ops : Array Oper} (h : regF Try.f76 18 = some ops) :
    AWP Try.prog Try.f76.ntmps none (.region 18 ops true) (cutQ (fun s h => s = [(94, boolA (decide ((b.cons.getD j default).frm = c.frm))), (8, .v (ptrV g8)), (2, .v (ptrV g2)), (3, .v (ptrV g3)), (5, intA n), (7, u), (9, intA k)] ∧ h = [refB g2 b, ringE g3 74 c1 r, .cl g8 67 [intA c.frm, intA c.to, intA c.num, intA c.price]])) [(8, .v (ptrV g8)), (2, .v (ptrV g2)), (3, .v (ptrV g3)), (5, intA n), (7, u), (9, intA k)] [refB g2 b, ringE g3 74 c1 r, .cl g8 67 [intA c.frm, intA c.to, intA c.num, intA c.price]] := by
  cases h
  refine awp_tree T0 [(0, 0), (1, 1), (2, 0), (3, 1), (4, 0), (5, 0), (6, 1), (7, 0), (8, 0), (9, 1), (10, 0), (11, 1), (12, 0)] (.op 0 0 (.op 1 1 (.op 2 0 (.op 3 1 (.op 4 0 (.op 5 0 (.op 6 1 (.op 7 0 (.op 8 0 (.op 9 1 (.op 10 0 (.op 11 1 (.op 12 0 .stop))))))))))))) [.cl g2 _ _, .cl g3 _ _, .cl g8 _ _] rfl (by kernel_rfl) (by solve | repeat' constructor) ?_
  refine awt_po rfl (wt_none rfl) (pv_fa T0 rfl rfl rfl (by simp; rfl)) rfl rfl ?_
  refine awt_lo rfl (wt_none rfl) (lv_cl1 T0 rfl rfl rfl (by solve | repeat' constructor) (by first | rfl | assumption)) rfl rfl rfl ?_
  refine awt_po rfl (wt_none rfl) (pv_fa T0 rfl rfl rfl (by simp; rfl)) rfl rfl ?_
  refine awt_lo rfl (wt_none rfl) (lv_cl1 T0 rfl rfl rfl (by solve | repeat' constructor) (by first | rfl | assumption)) rfl rfl rfl ?_
  refine awt_po rfl (wt_none rfl) (pv_move rfl rfl) rfl rfl ?_
  refine awt_po rfl (wt_none rfl) (pv_ix_t T0 rfl rfl rfl rfl (by omega) (by first | exact Int.toNat_natCast _ | rfl)) rfl rfl ?_
  refine awt_lo rfl (wt_none rfl) (lv_elt_sc T0 rfl rfl rfl rfl) rfl rfl rfl ?_
  refine awt_po rfl (wt_none rfl) (pv_ix_t T0 rfl rfl rfl rfl (by omega) hj) rfl rfl ?_
  refine awt_po rfl (wt_none rfl) (pv_fa_elt T0 rfl rfl rfl (by simp; rfl)) rfl rfl ?_
  refine awt_lo rfl (wt_none rfl) (lv_elt_sc T0 rfl rfl rfl rfl) rfl rfl rfl ?_
  refine awt_po rfl (wt_none rfl) (pv_fa T0 rfl rfl rfl (by simp; rfl)) rfl rfl ?_
  refine awt_lo rfl (wt_none rfl) (lv_cl1 T0 rfl rfl rfl (by solve | repeat' constructor) (by first | rfl | assumption)) rfl rfl rfl ?_
  refine awt_po rfl (wt_none rfl) (pv_eql rfl rfl rfl) rfl rfl ?_
  refine awt_end ?_
  exact cut_n ⟨rfl, rfl⟩ (by first | ((repeat' (first | exact True.intro | refine ⟨rfl, ?_⟩)); all_goals fail) | fail) (by solve | repeat' constructor)
end
end Go.Proofs.Ytilhflfbbfeakaa
end
section
namespace Go.Proofs.Ytilhflfbbfeakaa
open Go Go.RowKit Go.Tl
set_option linter.unusedVariables false
set_option linter.unusedSimpArgs false
set_option maxRecDepth 100000
set_option maxHeartbeats 4000000
attribute [local irreducible] AWP AWL AOp PV LV AWT AWE
theorem tmod_next (k n : Nat) : ((k : Int) + 1).tmod (n : Int) = (((k + 1) % n : Nat) : Int) := by
  have e : ((k : Int) + 1) = ((k + 1 : Nat) : Int) := by omega
  rw [e]
  rfl
theorem okAt_iff {b : BookD} {r : RingD} {k : Nat} : inB (r.cons.getD k 0) 0 ((b.cons.length : Int) - 1) = true ↔ okAt b r k := inB_iff
theorem okAt_no {b : BookD} {r : RingD} {k : Nat} (h : inB (r.cons.getD k 0) 0 ((b.cons.length : Int) - 1) = false) : ¬ okAt b r k := fun x => by
  rw [okAt_iff.2 x] at h; cases h
theorem isring_p (c1 : Bool) (b : BookD) (r : RingD) (hv : VBook b) (hl : r.cons.length ≤ 1000) : PCall Try.prog 76 [bookA false b, ringA c1 r] (fun x => x = boolA (ringB b r)) := by
  have hlen := hv.len
  have hh := hv.houses
  refine acall_of_awp T0 Try.func76 rfl rfl rfl ?_
  repeat (first | refine awp_seq ?_ | refine awp_region_lit rfl ?_)
  refine awl_hw (by first | exact wt_none rfl | exact wt_some' rfl rfl rfl rfl (by first | rfl | assumption | exact dT (by omega) | exact dF (by omega))) (st_box rfl rfl (by first | rfl | assumption) (by first | assumption | (simp only [cellsA]; rfl)) rfl rfl ?_)
  intro g2
  skip
  refine awl_hw (by first | exact wt_none rfl | exact wt_some' rfl rfl rfl rfl (by first | rfl | assumption | exact dT (by omega) | exact dF (by omega))) (st_box rfl rfl (by first | rfl | assumption) (by first | assumption | (simp only [cellsA]; rfl)) rfl rfl ?_)
  intro g3
  by_cases h1 : (r.cons.length : Int) < 2
  · have d1 := decide_eq_true h1
    rw [ringB_f (fun h => by have := h.1; omega)]
    repeat (first | refine awp_seq ?_ | refine awp_region_lit rfl ?_ | refine awp_ret ?_ | refine then_n ?_ | refine then_r ?_ | refine awp_cond_t rfl (by first | rfl | assumption | exact dT (by omega)) ?_ | ((first | (show AWL _ _ _ (⟨_, .move _, _, _, _, _⟩ :: _) _ _ _; refine awl_pw ?w (pv_move rfl rfl) rfl rfl ?_) | (show AWL _ _ _ (⟨_, .assign _, _, _, _, _⟩ :: _) _ _ _; refine awl_pw ?w (pv_assign rfl rfl) rfl rfl ?_) | (show AWL _ _ _ (⟨_, .load _ _, _, _, _, _⟩ :: _) _ _ _; refine awl_lw ?w (lv_cl1 T0 rfl rfl rfl (by solve | repeat' constructor) (by first | rfl | assumption)) rfl rfl rfl ?_) | (show AWL _ _ _ (⟨_, .fieldAddr _ _ _, _, _, _, _⟩ :: _) _ _ _; refine awl_pw ?w (pv_fa T0 rfl rfl rfl (by simp; rfl)) rfl rfl ?_) | (show AWL _ _ _ (⟨_, .binOp .lss _ _ _ _, _, _, _, _⟩ :: _) _ _ _; refine awl_pw ?w (pv_lss rfl rfl rfl) rfl rfl ?_) | (show AWL _ _ _ (⟨_, .call ⟨.builtin .len, _, _⟩, _, _, _, _⟩ :: _) _ _ _; refine awl_pw ?w (pv_len_t T0 rfl rfl rfl) rfl rfl ?_) | (show AWL _ _ _ (⟨_, .pick _ _ _, _, _, _, _⟩ :: _) _ _ _; refine awl_pw ?w (pv_pick_t rfl rfl (by first | rfl | assumption | exact dT (by omega) | exact dF (by omega)) rfl) rfl rfl ?_)); case w => first | exact wt_none rfl | exact wt_some' rfl rfl rfl rfl (by first | rfl | assumption | exact dT (by omega) | exact dF (by omega))) | refine awl_sk (wf_some rfl rfl rfl rfl (by first | rfl | assumption | exact dT (by omega) | exact dF (by omega))) rfl rfl ?_ | refine awl_nil ?_)
    exact body_p (.cons rfl .nil) rfl
  have d1 := decide_eq_false h1
  by_cases h2 : b.houses < r.cons.length
  · have d2 := decide_eq_true h2
    rw [ringB_f (fun h => by have := ring_len hv h; omega)]
    repeat (first | refine awp_seq ?_ | refine awp_region_lit rfl ?_ | refine awp_ret ?_ | refine then_n ?_ | refine then_r ?_ | refine awp_cond_t rfl (by first | rfl | assumption | exact dT (by omega)) ?_ | ((first | (show AWL _ _ _ (⟨_, .move _, _, _, _, _⟩ :: _) _ _ _; refine awl_pw ?w (pv_move rfl rfl) rfl rfl ?_) | (show AWL _ _ _ (⟨_, .assign _, _, _, _, _⟩ :: _) _ _ _; refine awl_pw ?w (pv_assign rfl rfl) rfl rfl ?_) | (show AWL _ _ _ (⟨_, .load _ _, _, _, _, _⟩ :: _) _ _ _; refine awl_lw ?w (lv_cl1 T0 rfl rfl rfl (by solve | repeat' constructor) (by first | rfl | assumption)) rfl rfl rfl ?_) | (show AWL _ _ _ (⟨_, .fieldAddr _ _ _, _, _, _, _⟩ :: _) _ _ _; refine awl_pw ?w (pv_fa T0 rfl rfl rfl (by simp; rfl)) rfl rfl ?_) | (show AWL _ _ _ (⟨_, .binOp .lss _ _ _ _, _, _, _, _⟩ :: _) _ _ _; refine awl_pw ?w (pv_lss rfl rfl rfl) rfl rfl ?_) | (show AWL _ _ _ (⟨_, .binOp .gtr _ _ _ _, _, _, _, _⟩ :: _) _ _ _; refine awl_pw ?w (pv_gtr rfl rfl rfl) rfl rfl ?_) | (show AWL _ _ _ (⟨_, .call ⟨.builtin .len, _, _⟩, _, _, _, _⟩ :: _) _ _ _; refine awl_pw ?w (pv_len_t T0 rfl rfl rfl) rfl rfl ?_) | (show AWL _ _ _ (⟨_, .pick _ _ _, _, _, _, _⟩ :: _) _ _ _; refine awl_pw ?w (pv_pick_t rfl rfl (by first | rfl | assumption | exact dT (by omega) | exact dF (by omega)) rfl) rfl rfl ?_) | (show AWL _ _ _ (⟨_, .pick _ _ _, _, _, _, _⟩ :: _) _ _ _; refine awl_pw ?w (pv_pick_f rfl rfl (by first | rfl | assumption | exact dT (by omega) | exact dF (by omega)) rfl) rfl rfl ?_)); case w => first | exact wt_none rfl | exact wt_some' rfl rfl rfl rfl (by first | rfl | assumption | exact dT (by omega) | exact dF (by omega))) | refine awl_sk (wf_some rfl rfl rfl rfl (by first | rfl | assumption | exact dT (by omega) | exact dF (by omega))) rfl rfl ?_ | refine awl_nil ?_)
    exact body_p (.cons rfl .nil) rfl
  have d2 := decide_eq_false h2
  by_cases h3 : r.amount < 1
  · have d3 := decide_eq_true h3
    rw [ringB_f (fun h => by have := h.2.1; omega)]
    repeat (first | refine awp_seq ?_ | refine awp_region_lit rfl ?_ | refine awp_ret ?_ | refine then_n ?_ | refine then_r ?_ | refine awp_cond_t rfl (by first | rfl | assumption | exact dT (by omega)) ?_ | ((first | (show AWL _ _ _ (⟨_, .move _, _, _, _, _⟩ :: _) _ _ _; refine awl_pw ?w (pv_move rfl rfl) rfl rfl ?_) | (show AWL _ _ _ (⟨_, .assign _, _, _, _, _⟩ :: _) _ _ _; refine awl_pw ?w (pv_assign rfl rfl) rfl rfl ?_) | (show AWL _ _ _ (⟨_, .load _ _, _, _, _, _⟩ :: _) _ _ _; refine awl_lw ?w (lv_cl1 T0 rfl rfl rfl (by solve | repeat' constructor) (by first | rfl | assumption)) rfl rfl rfl ?_) | (show AWL _ _ _ (⟨_, .fieldAddr _ _ _, _, _, _, _⟩ :: _) _ _ _; refine awl_pw ?w (pv_fa T0 rfl rfl rfl (by simp; rfl)) rfl rfl ?_) | (show AWL _ _ _ (⟨_, .binOp .lss _ _ _ _, _, _, _, _⟩ :: _) _ _ _; refine awl_pw ?w (pv_lss rfl rfl rfl) rfl rfl ?_) | (show AWL _ _ _ (⟨_, .binOp .gtr _ _ _ _, _, _, _, _⟩ :: _) _ _ _; refine awl_pw ?w (pv_gtr rfl rfl rfl) rfl rfl ?_) | (show AWL _ _ _ (⟨_, .call ⟨.builtin .len, _, _⟩, _, _, _, _⟩ :: _) _ _ _; refine awl_pw ?w (pv_len_t T0 rfl rfl rfl) rfl rfl ?_) | (show AWL _ _ _ (⟨_, .pick _ _ _, _, _, _, _⟩ :: _) _ _ _; refine awl_pw ?w (pv_pick_t rfl rfl (by first | rfl | assumption | exact dT (by omega) | exact dF (by omega)) rfl) rfl rfl ?_) | (show AWL _ _ _ (⟨_, .pick _ _ _, _, _, _, _⟩ :: _) _ _ _; refine awl_pw ?w (pv_pick_f rfl rfl (by first | rfl | assumption | exact dT (by omega) | exact dF (by omega)) rfl) rfl rfl ?_)); case w => first | exact wt_none rfl | exact wt_some' rfl rfl rfl rfl (by first | rfl | assumption | exact dT (by omega) | exact dF (by omega))) | refine awl_sk (wf_some rfl rfl rfl rfl (by first | rfl | assumption | exact dT (by omega) | exact dF (by omega))) rfl rfl ?_ | refine awl_nil ?_)
    exact body_p (.cons rfl .nil) rfl
  have d3 := decide_eq_false h3
  by_cases h4 : 100 < r.amount
  · have d4 := decide_eq_true h4
    rw [ringB_f (fun h => by have := h.2.1; omega)]
    repeat (first | refine awp_seq ?_ | refine awp_region_lit rfl ?_ | refine awp_ret ?_ | refine then_n ?_ | refine then_r ?_ | refine awp_cond_t rfl (by first | rfl | assumption | exact dT (by omega)) ?_ | ((first | (show AWL _ _ _ (⟨_, .move _, _, _, _, _⟩ :: _) _ _ _; refine awl_pw ?w (pv_move rfl rfl) rfl rfl ?_) | (show AWL _ _ _ (⟨_, .assign _, _, _, _, _⟩ :: _) _ _ _; refine awl_pw ?w (pv_assign rfl rfl) rfl rfl ?_) | (show AWL _ _ _ (⟨_, .load _ _, _, _, _, _⟩ :: _) _ _ _; refine awl_lw ?w (lv_cl1 T0 rfl rfl rfl (by solve | repeat' constructor) (by first | rfl | assumption)) rfl rfl rfl ?_) | (show AWL _ _ _ (⟨_, .fieldAddr _ _ _, _, _, _, _⟩ :: _) _ _ _; refine awl_pw ?w (pv_fa T0 rfl rfl rfl (by simp; rfl)) rfl rfl ?_) | (show AWL _ _ _ (⟨_, .binOp .lss _ _ _ _, _, _, _, _⟩ :: _) _ _ _; refine awl_pw ?w (pv_lss rfl rfl rfl) rfl rfl ?_) | (show AWL _ _ _ (⟨_, .binOp .gtr _ _ _ _, _, _, _, _⟩ :: _) _ _ _; refine awl_pw ?w (pv_gtr rfl rfl rfl) rfl rfl ?_) | (show AWL _ _ _ (⟨_, .call ⟨.builtin .len, _, _⟩, _, _, _, _⟩ :: _) _ _ _; refine awl_pw ?w (pv_len_t T0 rfl rfl rfl) rfl rfl ?_) | (show AWL _ _ _ (⟨_, .pick _ _ _, _, _, _, _⟩ :: _) _ _ _; refine awl_pw ?w (pv_pick_f rfl rfl (by first | rfl | assumption | exact dT (by omega) | exact dF (by omega)) rfl) rfl rfl ?_)); case w => first | exact wt_none rfl | exact wt_some' rfl rfl rfl rfl (by first | rfl | assumption | exact dT (by omega) | exact dF (by omega))) | refine awl_nil ?_)
    exact body_p (.cons rfl .nil) rfl
  have d4 := decide_eq_false h4
  repeat (first | refine awp_seq ?_ | refine awp_block ?_ | refine awp_region_lit rfl ?_ | refine awp_skip ?_ | refine then_n ?_ | refine awp_cond_f rfl (by first | rfl | assumption | exact dF (by omega)) ?_ | ((first | (show AWL _ _ _ (⟨_, .move _, _, _, _, _⟩ :: _) _ _ _; refine awl_pw ?w (pv_move rfl rfl) rfl rfl ?_) | (show AWL _ _ _ (⟨_, .assign _, _, _, _, _⟩ :: _) _ _ _; refine awl_pw ?w (pv_assign rfl rfl) rfl rfl ?_) | (show AWL _ _ _ (⟨_, .load _ _, _, _, _, _⟩ :: _) _ _ _; refine awl_lw ?w (lv_cl1 T0 rfl rfl rfl (by solve | repeat' constructor) (by first | rfl | assumption)) rfl rfl rfl ?_) | (show AWL _ _ _ (⟨_, .fieldAddr _ _ _, _, _, _, _⟩ :: _) _ _ _; refine awl_pw ?w (pv_fa T0 rfl rfl rfl (by simp; rfl)) rfl rfl ?_) | (show AWL _ _ _ (⟨_, .binOp .lss _ _ _ _, _, _, _, _⟩ :: _) _ _ _; refine awl_pw ?w (pv_lss rfl rfl rfl) rfl rfl ?_) | (show AWL _ _ _ (⟨_, .binOp .gtr _ _ _ _, _, _, _, _⟩ :: _) _ _ _; refine awl_pw ?w (pv_gtr rfl rfl rfl) rfl rfl ?_) | (show AWL _ _ _ (⟨_, .call ⟨.builtin .len, _, _⟩, _, _, _, _⟩ :: _) _ _ _; refine awl_pw ?w (pv_len_t T0 rfl rfl rfl) rfl rfl ?_) | (show AWL _ _ _ (⟨_, .pick _ _ _, _, _, _, _⟩ :: _) _ _ _; refine awl_pw ?w (pv_pick_f rfl rfl (by first | rfl | assumption | exact dT (by omega) | exact dF (by omega)) rfl) rfl rfl ?_)); case w => first | exact wt_none rfl | exact wt_some' rfl rfl rfl rfl (by first | rfl | assumption | exact dT (by omega) | exact dF (by omega))) | refine awl_nil ?_)
  refine awp_loop (fun m s h => ∃ (k : Nat), k ≤ r.cons.length ∧ m = r.cons.length - k ∧ (∀ j, j < k → okAt b r j) ∧ s = [(2, .v (ptrV g2)), (3, .v (ptrV g3)), (5, intA r.cons.length), (6, intA k)] ∧ h = [refB g2 b, ringE g3 74 c1 r]) ?_ ⟨0, Nat.zero_le _, rfl, (fun j hj => absurd hj (Nat.not_lt_zero _)), rfl, rfl⟩ (by first | ((repeat' (first | exact True.intro | refine ⟨rfl, ?_⟩)); all_goals fail) | fail) (by solve | repeat' constructor)
  rintro m s h ⟨k, hk, rfl, hall, rfl, rfl⟩
  by_cases hlt : k < r.cons.length
  · cases e : inB (r.cons.getD k 0) 0 ((b.cons.length : Int) - 1)
    · rw [ringB_f (fun h => okAt_no e (h.2.2.1 k hlt))]
      repeat (first | refine awp_seq ?_ | refine awp_block ?_ | refine awp_region_lit rfl ?_ | refine awp_skip ?_ | refine then_n ?_ | refine awp_cond_t rfl (by first | rfl | assumption | exact dT (by omega)) ?_ | ((first | (show AWL _ _ _ (⟨_, .move _, _, _, _, _⟩ :: _) _ _ _; refine awl_pw ?w (pv_move rfl rfl) rfl rfl ?_) | (show AWL _ _ _ (⟨_, .binOp .lss _ _ _ _, _, _, _, _⟩ :: _) _ _ _; refine awl_pw ?w (pv_lss rfl rfl rfl) rfl rfl ?_)); case w => first | exact wt_none rfl | exact wt_some' rfl rfl rfl rfl (by first | rfl | assumption | exact dT (by omega) | exact dF (by omega))) | refine awl_nil ?_)
      refine awp_tree T0 [(0, 0), (1, 1), (2, 0), (3, 0), (4, 1), (5, 0), (6, 1), (7, 0), (8, 0), (9, 3), (10, 0)] (.op 0 0 (.op 1 1 (.op 2 0 (.op 3 0 (.op 4 1 (.op 5 0 (.op 6 1 (.op 7 0 (.op 8 0 (.op 9 3 (.op 10 0 .stop))))))))))) _ rfl (by kernel_rfl) (SubH.refl _) ?_
      refine awt_po rfl (wt_none rfl) (pv_fa T0 rfl rfl rfl (by simp; rfl)) rfl rfl ?_
      refine awt_lo rfl (wt_none rfl) (lv_cl1 T0 rfl rfl rfl (by solve | repeat' constructor) (by first | rfl | assumption)) rfl rfl rfl ?_
      refine awt_po rfl (wt_none rfl) (pv_move rfl rfl) rfl rfl ?_
      refine awt_po rfl (wt_none rfl) (pv_ix_t T0 rfl rfl rfl rfl (by omega) (by first | exact Int.toNat_natCast _ | rfl)) rfl rfl ?_
      refine awt_lo rfl (wt_none rfl) (lv_elt_sc T0 rfl rfl rfl rfl) rfl rfl rfl ?_
      refine awt_po rfl (wt_none rfl) (pv_fa T0 rfl rfl rfl (by simp; rfl)) rfl rfl ?_
      refine awt_lo rfl (wt_none rfl) (lv_cl1 T0 rfl rfl rfl (by solve | repeat' constructor) (by first | rfl | assumption)) rfl rfl rfl ?_
      refine awt_po rfl (wt_none rfl) (pv_len_t T0 rfl rfl rfl) rfl rfl ?_
      refine awt_po rfl (wt_none rfl) (pv_sub rfl rfl rfl (by first | assumption | exact wr64 (by omega))) rfl rfl ?_
      refine awt_s (md := fun _ => True) rfl (wt_none rfl) (st_call T0 (in_q e) rfl rfl rfl rfl (by first | exact callee_lit | exact callee_v | exact callee_fn | assumption) (by solve | repeat' constructor) (by first | rfl | assumption) rfl ?_)
      rintro _ rfl
      refine awe_p rfl (wt_none rfl) (pv_not rfl rfl) rfl rfl ?_
      refine awe_end ?_
      repeat (first | refine awp_seq ?_ | refine awp_region_lit rfl ?_ | refine awp_ret ?_ | refine then_n ?_ | refine then_r ?_ | refine blk_r ?_ | refine rnd_r ?_ | refine awp_cond_t rfl (by first | rfl | assumption | exact dT (by omega)) ?_ | ((first | (show AWL _ _ _ (⟨_, .assign _, _, _, _, _⟩ :: _) _ _ _; refine awl_pw ?w (pv_assign rfl rfl) rfl rfl ?_)); case w => first | exact wt_none rfl | exact wt_some' rfl rfl rfl rfl (by first | rfl | assumption | exact dT (by omega) | exact dF (by omega))) | refine awl_nil ?_)
      exact body_p (.cons rfl .nil) rfl
    · repeat (first | refine awp_seq ?_ | refine awp_block ?_ | refine awp_region_lit rfl ?_ | refine awp_skip ?_ | refine then_n ?_ | refine awp_cond_t rfl (by first | rfl | assumption | exact dT (by omega)) ?_ | ((first | (show AWL _ _ _ (⟨_, .move _, _, _, _, _⟩ :: _) _ _ _; refine awl_pw ?w (pv_move rfl rfl) rfl rfl ?_) | (show AWL _ _ _ (⟨_, .binOp .lss _ _ _ _, _, _, _, _⟩ :: _) _ _ _; refine awl_pw ?w (pv_lss rfl rfl rfl) rfl rfl ?_)); case w => first | exact wt_none rfl | exact wt_some' rfl rfl rfl rfl (by first | rfl | assumption | exact dT (by omega) | exact dF (by omega))) | refine awl_nil ?_)
      refine awp_tree T0 [(0, 0), (1, 1), (2, 0), (3, 0), (4, 1), (5, 0), (6, 1), (7, 0), (8, 0), (9, 3), (10, 0)] (.op 0 0 (.op 1 1 (.op 2 0 (.op 3 0 (.op 4 1 (.op 5 0 (.op 6 1 (.op 7 0 (.op 8 0 (.op 9 3 (.op 10 0 .stop))))))))))) _ rfl (by kernel_rfl) (SubH.refl _) ?_
      refine awt_po rfl (wt_none rfl) (pv_fa T0 rfl rfl rfl (by simp; rfl)) rfl rfl ?_
      refine awt_lo rfl (wt_none rfl) (lv_cl1 T0 rfl rfl rfl (by solve | repeat' constructor) (by first | rfl | assumption)) rfl rfl rfl ?_
      refine awt_po rfl (wt_none rfl) (pv_move rfl rfl) rfl rfl ?_
      refine awt_po rfl (wt_none rfl) (pv_ix_t T0 rfl rfl rfl rfl (by omega) (by first | exact Int.toNat_natCast _ | rfl)) rfl rfl ?_
      refine awt_lo rfl (wt_none rfl) (lv_elt_sc T0 rfl rfl rfl rfl) rfl rfl rfl ?_
      refine awt_po rfl (wt_none rfl) (pv_fa T0 rfl rfl rfl (by simp; rfl)) rfl rfl ?_
      refine awt_lo rfl (wt_none rfl) (lv_cl1 T0 rfl rfl rfl (by solve | repeat' constructor) (by first | rfl | assumption)) rfl rfl rfl ?_
      refine awt_po rfl (wt_none rfl) (pv_len_t T0 rfl rfl rfl) rfl rfl ?_
      refine awt_po rfl (wt_none rfl) (pv_sub rfl rfl rfl (by first | assumption | exact wr64 (by omega))) rfl rfl ?_
      refine awt_s (md := fun _ => True) rfl (wt_none rfl) (st_call T0 (in_q e) rfl rfl rfl rfl (by first | exact callee_lit | exact callee_v | exact callee_fn | assumption) (by solve | repeat' constructor) (by first | rfl | assumption) rfl ?_)
      rintro _ rfl
      refine awe_p rfl (wt_none rfl) (pv_not rfl rfl) rfl rfl ?_
      refine awe_end ?_
      repeat (first | refine awp_region_lit rfl ?_ | refine awp_skip ?_ | refine then_n ?_ | refine awp_cond_f rfl (by first | rfl | assumption | exact dF (by omega)) ?_ | ((first | (show AWL _ _ _ (⟨_, .move _, _, _, _, _⟩ :: _) _ _ _; refine awl_pw ?w (pv_move rfl rfl) rfl rfl ?_) | (show AWL _ _ _ (⟨_, .assign _, _, _, _, _⟩ :: _) _ _ _; refine awl_pw ?w (pv_assign rfl rfl) rfl rfl ?_) | (show AWL _ _ _ (⟨_, .binOp .add _ _ _ _, _, _, _, _⟩ :: _) _ _ _; refine awl_pw ?w (pv_add rfl rfl rfl (by first | assumption | exact wr64 (by omega))) rfl rfl ?_)); case w => first | exact wt_none rfl | exact wt_some' rfl rfl rfl rfl (by first | rfl | assumption | exact dT (by omega) | exact dF (by omega))) | refine awl_nil ?_)
      refine rnd_n _ _ _ ?_ ⟨k + 1, hlt, rfl, fun j hj => ?_, rfl, rfl⟩ (by first | ((repeat' (first | exact True.intro | refine ⟨rfl, ?_⟩)); all_goals fail) | fail) (by solve | repeat' constructor)
      · omega
      · by_cases e' : j = k
        · subst e'; exact okAt_iff.1 e
        · exact hall j (by omega)
  as_aux_lemma =>
    obtain rfl : k = r.cons.length := by omega
    repeat (first | refine awp_seq ?_ | refine awp_block ?_ | refine awp_region_lit rfl ?_ | refine awp_exit ?_ | refine then_n ?_ | refine awp_cond_f rfl (by first | rfl | assumption | exact dF (by omega)) ?_ | ((first | (show AWL _ _ _ (⟨_, .move _, _, _, _, _⟩ :: _) _ _ _; refine awl_pw ?w (pv_move rfl rfl) rfl rfl ?_) | (show AWL _ _ _ (⟨_, .assign _, _, _, _, _⟩ :: _) _ _ _; refine awl_pw ?w (pv_assign rfl rfl) rfl rfl ?_) | (show AWL _ _ _ (⟨_, .binOp .lss _ _ _ _, _, _, _, _⟩ :: _) _ _ _; refine awl_pw ?w (pv_lss rfl rfl rfl) rfl rfl ?_)); case w => first | exact wt_none rfl | exact wt_some' rfl rfl rfl rfl (by first | rfl | assumption | exact dT (by omega) | exact dF (by omega))) | refine awl_nil ?_)
    refine awp_loop (fun m s h => ∃ (k : Nat), k ≤ r.cons.length ∧ m = r.cons.length - k ∧ (∀ j, j < k → (cAt b r j).to = (cAt b r ((j + 1) % r.cons.length)).frm) ∧ (∀ j m, j < k → m < j → (cAt b r m).frm ≠ (cAt b r j).frm) ∧ s = [(2, .v (ptrV g2)), (3, .v (ptrV g3)), (5, intA r.cons.length), (7, intA k)] ∧ h = [refB g2 b, ringE g3 74 c1 r]) ?_ ⟨0, Nat.zero_le _, rfl, (fun j hj => absurd hj (Nat.not_lt_zero _)), (fun j m hj => absurd hj (Nat.not_lt_zero _)), rfl, rfl⟩ (by first | ((repeat' (first | exact True.intro | refine ⟨rfl, ?_⟩)); all_goals fail) | fail) (by solve | repeat' constructor)
    rintro m s h ⟨k, hk2, rfl, ha1, ha2, rfl, rfl⟩
    by_cases hlt2 : k < r.cons.length
    case neg =>
      obtain rfl : k = r.cons.length := by omega
      rw [ringB_t ⟨by omega, by omega, hall, ha1, ha2⟩]
      repeat (first | refine awp_seq ?_ | refine awp_region_lit rfl ?_ | refine awp_exit ?_ | refine awp_ret ?_ | refine then_n ?_ | refine awp_cond_f rfl (by first | rfl | assumption | exact dF (by omega)) ?_ | ((first | (show AWL _ _ _ (⟨_, .move _, _, _, _, _⟩ :: _) _ _ _; refine awl_pw ?w (pv_move rfl rfl) rfl rfl ?_) | (show AWL _ _ _ (⟨_, .assign _, _, _, _, _⟩ :: _) _ _ _; refine awl_pw ?w (pv_assign rfl rfl) rfl rfl ?_) | (show AWL _ _ _ (⟨_, .binOp .lss _ _ _ _, _, _, _, _⟩ :: _) _ _ _; refine awl_pw ?w (pv_lss rfl rfl rfl) rfl rfl ?_)); case w => first | exact wt_none rfl | exact wt_some' rfl rfl rfl rfl (by first | rfl | assumption | exact dT (by omega) | exact dF (by omega))) | refine awl_nil ?_)
      exact body_p (.cons rfl .nil) rfl
    have hok := hall k hlt2
    have hq : (k + 1) % r.cons.length < r.cons.length := Nat.mod_lt _ (by omega)
    have hokq := hall _ hq
    repeat (first | refine awp_seq ?_ | refine awp_block ?_ | refine awp_region_lit rfl ?_ | refine awp_skip ?_ | refine then_n ?_ | refine awp_cond_t rfl (by first | rfl | assumption | exact dT (by omega)) ?_ | ((first | (show AWL _ _ _ (⟨_, .move _, _, _, _, _⟩ :: _) _ _ _; refine awl_pw ?w (pv_move rfl rfl) rfl rfl ?_) | (show AWL _ _ _ (⟨_, .binOp .lss _ _ _ _, _, _, _, _⟩ :: _) _ _ _; refine awl_pw ?w (pv_lss rfl rfl rfl) rfl rfl ?_)); case w => first | exact wt_none rfl | exact wt_some' rfl rfl rfl rfl (by first | rfl | assumption | exact dT (by omega) | exact dF (by omega))) | refine awl_nil ?_)
    refine awp_cut _ (awp_weak (by first | ((repeat' (first | exact True.intro | refine ⟨rfl, ?_⟩)); all_goals fail) | fail) (by solve | repeat' constructor) (rr_12 (b := b) (r := r) (c1 := c1) (g2 := g2) (g3 := g3) (k := k) (u := intA r.cons.length) hlt2 hl rfl hok.1 (okAt_lt hok).1 rfl)) ?_
    rintro s h ⟨g8, rfl, rfl⟩
    repeat (first | refine awp_seq ?_)
    refine awp_cut _ (awp_weak (by first | ((repeat' (first | exact True.intro | refine ⟨rfl, ?_⟩)); all_goals fail) | fail) (by solve | repeat' constructor) (rr_13 (b := b) (r := r) (c1 := c1) (g2 := g2) (g3 := g3) (g8 := g8) (c := cAt b r k) hlt2 rfl hl (tmod_next k r.cons.length) hq rfl hokq.1 (okAt_lt hokq).1 rfl)) ?_
    rintro s h ⟨rfl, rfl⟩
    by_cases c1' : (cAt b r k).to = (cAt b r ((k + 1) % r.cons.length)).frm
    case neg =>
      have d5 : decide ((b.cons.getD (r.cons.getD ((k + 1) % r.cons.length) 0).toNat default).frm ≠ (cAt b r k).to) = true := decide_eq_true (fun e => c1' e.symm)
      rw [ringB_f (fun h => c1' (h.2.2.2.1 k hlt2)), d5]
      repeat (first | refine awp_seq ?_ | refine awp_region_lit rfl ?_ | refine awp_ret ?_ | refine then_r ?_ | refine blk_r ?_ | refine rnd_r ?_ | refine awp_cond_t rfl (by first | rfl | assumption | exact dT (by omega)) ?_ | ((first | (show AWL _ _ _ (⟨_, .assign _, _, _, _, _⟩ :: _) _ _ _; refine awl_pw ?w (pv_assign rfl rfl) rfl rfl ?_)); case w => first | exact wt_none rfl | exact wt_some' rfl rfl rfl rfl (by first | rfl | assumption | exact dT (by omega) | exact dF (by omega))) | refine awl_nil ?_)
      exact body_p (.cons rfl .nil) rfl
    have d5 : decide ((b.cons.getD (r.cons.getD ((k + 1) % r.cons.length) 0).toNat default).frm ≠ (cAt b r k).to) = false := decide_eq_false (fun h => h c1'.symm)
    rw [d5]
    repeat (first | refine awp_seq ?_ | refine awp_block ?_ | refine awp_region_lit rfl ?_ | refine awp_skip ?_ | refine awp_cond_f rfl (by first | rfl | assumption | exact dF (by omega)) ?_ | ((first | (show AWL _ _ _ (⟨_, .assign _, _, _, _, _⟩ :: _) _ _ _; refine awl_pw ?w (pv_assign rfl rfl) rfl rfl ?_)); case w => first | exact wt_none rfl | exact wt_some' rfl rfl rfl rfl (by first | rfl | assumption | exact dT (by omega) | exact dF (by omega))) | refine awl_nil ?_)
    refine awp_loop (fun m s h => ∃ (i : Nat), i ≤ k ∧ m = k - i ∧ (∀ j, j < i → (cAt b r j).frm ≠ (cAt b r k).frm) ∧ s = [(8, .v (ptrV g8)), (2, .v (ptrV g2)), (3, .v (ptrV g3)), (5, intA r.cons.length), (7, intA k), (9, intA i)] ∧ h = [refB g2 b, ringE g3 74 c1 r, .cl g8 67 [intA (cAt b r k).frm, intA (cAt b r k).to, intA (cAt b r k).num, intA (cAt b r k).price]]) ?_ ⟨0, Nat.zero_le _, rfl, (fun j hj => absurd hj (Nat.not_lt_zero _)), rfl, rfl⟩ (by first | ((repeat' (first | exact True.intro | refine ⟨rfl, ?_⟩)); all_goals fail) | fail) (by solve | repeat' constructor)
    rintro m s h ⟨i, hi, rfl, hb1, rfl, rfl⟩
    by_cases hlt3 : i < k
    · have hoki := hall i (by omega)
      repeat (first | refine awp_seq ?_ | refine awp_block ?_ | refine awp_region_lit rfl ?_ | refine awp_skip ?_ | refine then_n ?_ | refine awp_cond_t rfl (by first | rfl | assumption | exact dT (by omega)) ?_ | ((first | (show AWL _ _ _ (⟨_, .move _, _, _, _, _⟩ :: _) _ _ _; refine awl_pw ?w (pv_move rfl rfl) rfl rfl ?_) | (show AWL _ _ _ (⟨_, .binOp .lss _ _ _ _, _, _, _, _⟩ :: _) _ _ _; refine awl_pw ?w (pv_lss rfl rfl rfl) rfl rfl ?_)); case w => first | exact wt_none rfl | exact wt_some' rfl rfl rfl rfl (by first | rfl | assumption | exact dT (by omega) | exact dF (by omega))) | refine awl_nil ?_)
      refine awp_cut _ (awp_weak (by first | ((repeat' (first | exact True.intro | refine ⟨rfl, ?_⟩)); all_goals fail) | fail) (by solve | repeat' constructor) (rr_18 (b := b) (r := r) (c1 := c1) (g2 := g2) (g3 := g3) (g8 := g8) (k := i) (n := r.cons.length) (u := intA k) (c := cAt b r k) (by omega) hl rfl hoki.1 (okAt_lt hoki).1 rfl)) ?_
      rintro s h ⟨rfl, rfl⟩
      by_cases c2 : (cAt b r i).frm = (cAt b r k).frm
      · have d6 : decide ((b.cons.getD (r.cons.getD i 0).toNat default).frm = (cAt b r k).frm) = true := decide_eq_true c2
        rw [ringB_f (fun h => h.2.2.2.2 k i hlt2 hlt3 c2), d6]
        repeat (first | refine awp_seq ?_ | refine awp_region_lit rfl ?_ | refine awp_ret ?_ | refine then_r ?_ | refine blk_r ?_ | refine rnd_r ?_ | refine awp_cond_t rfl (by first | rfl | assumption | exact dT (by omega)) ?_ | ((first | (show AWL _ _ _ (⟨_, .assign _, _, _, _, _⟩ :: _) _ _ _; refine awl_pw ?w (pv_assign rfl rfl) rfl rfl ?_)); case w => first | exact wt_none rfl | exact wt_some' rfl rfl rfl rfl (by first | rfl | assumption | exact dT (by omega) | exact dF (by omega))) | refine awl_nil ?_)
        exact body_p (.cons rfl .nil) rfl
      · have d6 : decide ((b.cons.getD (r.cons.getD i 0).toNat default).frm = (cAt b r k).frm) = false := decide_eq_false c2
        rw [d6]
        repeat (first | refine awp_region_lit rfl ?_ | refine awp_skip ?_ | refine awp_cond_f rfl (by first | rfl | assumption | exact dF (by omega)) ?_ | ((first | (show AWL _ _ _ (⟨_, .move _, _, _, _, _⟩ :: _) _ _ _; refine awl_pw ?w (pv_move rfl rfl) rfl rfl ?_) | (show AWL _ _ _ (⟨_, .assign _, _, _, _, _⟩ :: _) _ _ _; refine awl_pw ?w (pv_assign rfl rfl) rfl rfl ?_) | (show AWL _ _ _ (⟨_, .binOp .add _ _ _ _, _, _, _, _⟩ :: _) _ _ _; refine awl_pw ?w (pv_add rfl rfl rfl (by first | assumption | exact wr64 (by omega))) rfl rfl ?_)); case w => first | exact wt_none rfl | exact wt_some' rfl rfl rfl rfl (by first | rfl | assumption | exact dT (by omega) | exact dF (by omega))) | refine awl_nil ?_)
        refine rnd_n _ _ _ ?_ ⟨i + 1, by omega, rfl, fun j hj => ?_, rfl, rfl⟩ (by first | ((repeat' (first | exact True.intro | refine ⟨rfl, ?_⟩)); all_goals fail) | fail) (by solve | repeat' constructor)
        · omega
        · by_cases e' : j = i
          · subst e'; exact c2
          · exact hb1 j (by omega)
    obtain rfl : i = k := by omega
    repeat (first | refine awp_seq ?_ | refine awp_region_lit rfl ?_ | refine awp_exit ?_ | refine then_n ?_ | refine awp_cond_f rfl (by first | rfl | assumption | exact dF (by omega)) ?_ | ((first | (show AWL _ _ _ (⟨_, .move _, _, _, _, _⟩ :: _) _ _ _; refine awl_pw ?w (pv_move rfl rfl) rfl rfl ?_) | (show AWL _ _ _ (⟨_, .assign _, _, _, _, _⟩ :: _) _ _ _; refine awl_pw ?w (pv_assign rfl rfl) rfl rfl ?_) | (show AWL _ _ _ (⟨_, .binOp .add _ _ _ _, _, _, _, _⟩ :: _) _ _ _; refine awl_pw ?w (pv_add rfl rfl rfl (by first | assumption | exact wr64 (by omega))) rfl rfl ?_) | (show AWL _ _ _ (⟨_, .binOp .lss _ _ _ _, _, _, _, _⟩ :: _) _ _ _; refine awl_pw ?w (pv_lss rfl rfl rfl) rfl rfl ?_)); case w => first | exact wt_none rfl | exact wt_some' rfl rfl rfl rfl (by first | rfl | assumption | exact dT (by omega) | exact dF (by omega))) | refine awl_nil ?_)
    refine rnd_n _ _ _ ?_ ⟨i + 1, by omega, rfl, fun j hj => ?_, fun j m hj hm => ?_, rfl, rfl⟩ (by first | ((repeat' (first | exact True.intro | refine ⟨rfl, ?_⟩)); all_goals fail) | fail) (by solve | repeat' constructor)
    · omega
    · by_cases e' : j = i
      · subst e'; exact c1'
      · exact ha1 j (by omega)
    · by_cases e' : j = i
      · subst e'; exact hb1 m hm
      · exact ha2 j m (by omega) hm
end Go.Proofs.Ytilhflfbbfeakaa
end
section
namespace Go.Proofs.Ytilhflfbbfeakaa
open Go Go.RowKit Go.Tl
set_option linter.unusedVariables false
set_option linter.unusedSimpArgs false
set_option maxRecDepth 100000
set_option maxHeartbeats 4000000
/-- what the first contracts of a ring add to one -/
def ringN (r : RingD) : Nat → Nat → Int
  | 0, h => 0
  | k + 1, h => ringN r k h + (if r.cons.getD k 0 = (h : Int) then r.amount else 0)
/-- what the first rings make up -/
def madeN (rs : List RingD) : Nat → Nat → Int
  | 0, h => 0
  | i + 1, h => madeN rs i h + ringN (rs.getD i default) (rs.getD i default).cons.length h
def madeL (b : BookD) (rs : List RingD) : List Int := (List.range b.cons.length).map (madeN rs rs.length)
theorem made_len {b : BookD} {rs : List RingD} : (madeL b rs).length = b.cons.length := by simp [madeL]
theorem made_at {b : BookD} {rs : List RingD} {h : Nat} (hh : h < b.cons.length) : (madeL b rs).getD h 0 = madeN rs rs.length h := by
  simp [madeL, List.getD_eq_getElem?_getD, hh]
theorem ringN_bd {r : RingD} (ha : 1 ≤ r.amount ∧ r.amount ≤ 100) (h : Nat) : ∀ k, 0 ≤ ringN r k h ∧ ringN r k h ≤ 100 * k
  | 0 => by simp [ringN]
  | k + 1 => by
    have ih := ringN_bd ha h k
    simp only [ringN]
    split <;> omega
theorem madeN_bd {b : BookD} {rs : List RingD} (hv : VBook b) (h : Nat) : ∀ i, i ≤ rs.length → (∀ j, j < i → isRing b (rs.getD j default)) → 0 ≤ madeN rs i h ∧ madeN rs i h ≤ 600 * i
  | 0, _, _ => by simp [madeN]
  | i + 1, hi, hr => by
    have ih := madeN_bd hv h i (by omega) (fun j hj => hr j (by omega))
    have hri := hr i (by omega)
    have h1 := ringN_bd hri.2.1 h (rs.getD i default).cons.length
    have h2 := ring_len hv hri
    have h3 := hv.houses
    simp only [madeN]
    omega
theorem ring_acc {b : BookD} {r : RingD} (hr : isRing b r) (h : Nat) : ∀ k, k ≤ r.cons.length → accN b.cons (ringN r k) b.cons.length h = sumR k (fun j => if (cAt b r j).to = (h : Int) then r.amount else 0) - sumR k (fun j => if (cAt b r j).frm = (h : Int) then r.amount else 0)
  | 0, _ => by
    have : ringN r 0 = fun _ => 0 := rfl
    rw [this, acc_zero]; rfl
  | k + 1, hk => by
    have e := okAt_lt (hr.2.2.1 k (by omega))
    have : ringN r (k + 1) = fun i => ringN r k i + (if ((r.cons.getD k 0).toNat : Int) = (i : Int) then r.amount else 0) := by
      funext i
      show ringN r k i + _ = _
      rw [e.2]; rfl
    rw [this, acc_add, ring_acc hr h k (by omega), acc_one, if_pos e.1, sumR_succ, sumR_succ]
    show _ + ((if (cAt b r k).to = _ then _ else _) - (if (cAt b r k).frm = _ then _ else _)) = _
    omega
theorem ring_zero {b : BookD} {r : RingD} (hr : isRing b r) (h : Nat) : accN b.cons (ringN r r.cons.length) b.cons.length h = 0 := by
  rw [ring_acc hr h _ (Nat.le_refl _)]
  have h1 := sumR_turn (n := r.cons.length) (by have := hr.1; omega) (fun j => if (cAt b r j).frm = (h : Int) then r.amount else 0)
  have h2 : sumR r.cons.length (fun j => if (cAt b r j).to = (h : Int) then r.amount else 0) = sumR r.cons.length (fun j => if (cAt b r ((j + 1) % r.cons.length)).frm = (h : Int) then r.amount else 0) :=
    sumR_congr fun j hj => by rw [hr.2.2.2.1 j hj]
  rw [h2, h1]
  omega
theorem made_zero {b : BookD} {rs : List RingD} (h : Nat) : ∀ i, i ≤ rs.length → (∀ j, j < i → isRing b (rs.getD j default)) → accN b.cons (madeN rs i) b.cons.length h = 0
  | 0, _, _ => acc_zero h _
  | i + 1, hi, hr => by
    have : madeN rs (i + 1) = fun h => madeN rs i h + ringN (rs.getD i default) (rs.getD i default).cons.length h := rfl
    rw [this, acc_add, made_zero h i (by omega) (fun j hj => hr j (by omega)), ring_zero (hr i (by omega))]
    rfl
theorem made_off {b : BookD} {rs : List RingD} (hr : ∀ j, j < rs.length → isRing b (rs.getD j default)) : offB b (madeL b rs) = listedB b (madeL b rs) := by
  unfold offB
  have : (netL b fun i => (madeL b rs).getD i 0).all (fun n => decide (n = 0)) = true := by
    rw [List.all_eq_true]
    intro x hx
    obtain ⟨h, -, rfl⟩ := List.mem_map.1 hx
    refine decide_eq_true ?_
    rw [accN_congr (g := madeN rs rs.length) _ _ (fun i hi => made_at hi)]
    exact made_zero h _ (Nat.le_refl _) hr
  rw [this, Bool.and_true]
attribute [local irreducible] AWP AWL AOp PV LV AWT AWE
section
variable {r : RingD} {rs : List RingD} {cp c1 c2 : Bool} {g2 g9 ga n k j i : Nat} {F G : Nat → Int} {x : Ent} {u1 u2 u3 u4 u5 u6 u7 u8 : AV}
theorem pr48_10 (hj : j < n) (hn : n ≤ 1000) (ha : 1 ≤ r.amount ∧ r.amount ≤ 100) (b1 : 0 ≤ F j ∧ F j ≤ 1000000000) (hG : ∀ q, q < n → G q = if q = j then F j + r.amount else F q) {ops : Array Oper} (h : regF Try.f48 10 = some ops) :
    AWP Try.prog Try.f48.ntmps none (.region 10 ops true) (cutQ (fun s h => s = [(2, u2), (3, u3), (7, .v (.slice (some ⟨ga, 0, none⟩) n n)), (9, .v (ptrV g9)), (26, u4), (27, u5), (28, u6), (33, u7), (34, u8), (35, u1)] ∧ h = [ringE g9 82 c1 r, x, .rw (.slice (some ⟨ga, 0, none⟩) n n) 3 1 (fRows G n)]))
      [(2, u2), (3, u3), (7, .v (.slice (some ⟨ga, 0, none⟩) n n)), (9, .v (ptrV g9)), (11, intA j), (26, u4), (27, u5), (28, u6), (33, u7), (34, u8), (35, u1)] [ringE g9 82 c1 r, x, .rw (.slice (some ⟨ga, 0, none⟩) n n) 3 1 (fRows F n)] := by
  cases h
  have r1 : ((fRows F n).getD j [])[0]? = some (intA (F j)) := fRows_at hj
  have r2 := fRows_len F n
  refine awp_tree T0 [(0, 0), (1, 0), (2, 0), (3, 1), (4, 0), (5, 1), (6, 0), (7, 0), (8, 3)] (.op 0 0 (.op 1 0 (.op 2 0 (.op 3 1 (.op 4 0 (.op 5 1 (.op 6 0 (.op 7 0 (.op 8 3 .stop))))))))) [.cl g9 _ _, .rw _ _ _ _] rfl (by kernel_rfl) (by solve | repeat' constructor) ?_
  refine awt_po rfl (wt_none rfl) (pv_move rfl rfl) rfl rfl ?_
  refine awt_po rfl (wt_none rfl) (pv_move rfl rfl) rfl rfl ?_
  refine awt_po rfl (wt_none rfl) (pv_ix_own T0 rfl rfl rfl rfl (by omega) (by first | exact Int.toNat_natCast _ | rfl)) rfl rfl ?_
  refine awt_lo rfl (wt_none rfl) (lv_rp T0 rfl rfl rfl (by solve | repeat' constructor) (by first | omega | (simp; omega)) (by omega) (by first | assumption | rfl)) rfl rfl rfl ?_
  refine awt_po rfl (wt_none rfl) (pv_fa T0 rfl rfl rfl (by simp; rfl)) rfl rfl ?_
  refine awt_lo rfl (wt_none rfl) (lv_cl1 T0 rfl rfl rfl (by solve | repeat' constructor) (by first | rfl | assumption)) rfl rfl rfl ?_
  refine awt_po rfl (wt_none rfl) (pv_add rfl rfl rfl (by first | assumption | exact wr64 (by omega))) rfl rfl ?_
  refine awt_po rfl (wt_none rfl) (pv_ix_own T0 rfl rfl rfl rfl (by omega) (by first | exact Int.toNat_natCast _ | rfl)) rfl rfl ?_
  refine awt_s (md := fun _ => True) rfl (wt_none rfl) (aop_store_rp T0 rfl rfl rfl rfl rfl rfl rfl rfl (by solve | repeat' constructor) (by first | omega | (simp; omega)) (by omega) rfl trivial ?_)
  refine awe_end ?_
  simp only [cellsA]
  rw [fRows_set hj hG]
  exact cut_n ⟨rfl, rfl⟩ (by first | ((repeat' (first | exact True.intro | refine ⟨rfl, ?_⟩)); all_goals fail) | fail) (by solve | repeat' constructor)
theorem md_10 (hi : i < rs.length) (hrl : rs.length ≤ 1000) (hk : k < (rs.getD i default).cons.length) (hkl : (rs.getD i default).cons.length ≤ 1000) (hx0 : 0 ≤ (rs.getD i default).cons.getD k 0) (hxj : ((rs.getD i default).cons.getD k 0).toNat = j) (hj : j < n) (hn : n ≤ 1000) (ha : 1 ≤ (rs.getD i default).amount ∧ (rs.getD i default).amount ≤ 100) (b1 : 0 ≤ F j ∧ F j ≤ 1000000000) (hG : ∀ q, q < n → G q = if q = j then F j + (rs.getD i default).amount else F q) {ops : Array Oper} (h : regF Try.f36 10 = some ops) :
    AWP Try.prog Try.f36.ntmps none (.region 10 ops true) (cutQ (fun s h => s = [(1, .t (ringsT cp c1 rs)), (2, u2), (6, .v (.slice (some ⟨ga, 0, none⟩) n n)), (7, intA i), (8, intA k)] ∧ h = [x, .rw (.slice (some ⟨ga, 0, none⟩) n n) 3 1 (fRows G n)]))
      [(1, .t (ringsT cp c1 rs)), (2, u2), (6, .v (.slice (some ⟨ga, 0, none⟩) n n)), (7, intA i), (8, intA k)] [x, .rw (.slice (some ⟨ga, 0, none⟩) n n) 3 1 (fRows F n)] := by
  cases h
  have r1 : ((fRows F n).getD j [])[0]? = some (intA (F j)) := fRows_at hj
  have r2 := fRows_len F n
  refine awp_tree T0 [(0, 0), (1, 0), (2, 0), (3, 0), (4, 0), (5, 1), (6, 0), (7, 0), (8, 1), (9, 0), (10, 1), (11, 0), (12, 0), (13, 0), (14, 0), (15, 1), (16, 0), (17, 0), (18, 3)] (.op 0 0 (.op 1 0 (.op 2 0 (.op 3 0 (.op 4 0 (.op 5 1 (.op 6 0 (.op 7 0 (.op 8 1 (.op 9 0 (.op 10 1 (.op 11 0 (.op 12 0 (.op 13 0 (.op 14 0 (.op 15 1 (.op 16 0 (.op 17 0 (.op 18 3 .stop))))))))))))))))))) [.rw _ _ _ _] rfl (by kernel_rfl) (by solve | repeat' constructor) ?_
  refine awt_po rfl (wt_none rfl) (pv_move rfl rfl) rfl rfl ?_
  refine awt_po rfl (wt_none rfl) (pv_move rfl rfl) rfl rfl ?_
  refine awt_po rfl (wt_none rfl) (pv_move rfl rfl) rfl rfl ?_
  refine awt_po rfl (wt_none rfl) (pv_ix_t T0 rfl rfl rfl rfl (by omega) (by first | exact Int.toNat_natCast _ | rfl)) rfl rfl ?_
  refine awt_po rfl (wt_none rfl) (pv_fa_elt T0 rfl rfl rfl (by simp; rfl)) rfl rfl ?_
  refine awt_lo rfl (wt_none rfl) (lv_elt_sl T0 rfl rfl rfl rfl) rfl rfl rfl ?_
  refine awt_po rfl (wt_none rfl) (pv_move rfl rfl) rfl rfl ?_
  refine awt_po rfl (wt_none rfl) (pv_ix_t T0 rfl rfl rfl rfl (by omega) (by first | exact Int.toNat_natCast _ | rfl)) rfl rfl ?_
  refine awt_lo rfl (wt_none rfl) (lv_elt_sc T0 rfl rfl rfl rfl) rfl rfl rfl ?_
  refine awt_po rfl (wt_none rfl) (pv_ix_own T0 rfl rfl rfl rfl (by omega) hxj) rfl rfl ?_
  refine awt_lo rfl (wt_none rfl) (lv_rp T0 rfl rfl rfl (by solve | repeat' constructor) (by first | omega | (simp; omega)) (by omega) (by first | assumption | rfl)) rfl rfl rfl ?_
  refine awt_po rfl (wt_none rfl) (pv_move rfl rfl) rfl rfl ?_
  refine awt_po rfl (wt_none rfl) (pv_move rfl rfl) rfl rfl ?_
  refine awt_po rfl (wt_none rfl) (pv_ix_t T0 rfl rfl rfl rfl (by omega) (by first | exact Int.toNat_natCast _ | rfl)) rfl rfl ?_
  refine awt_po rfl (wt_none rfl) (pv_fa_elt T0 rfl rfl rfl (by simp; rfl)) rfl rfl ?_
  refine awt_lo rfl (wt_none rfl) (lv_elt_sc T0 rfl rfl rfl rfl) rfl rfl rfl ?_
  refine awt_po rfl (wt_none rfl) (pv_add rfl rfl rfl (by first | assumption | exact wr64 (by omega))) rfl rfl ?_
  refine awt_po rfl (wt_none rfl) (pv_ix_own T0 rfl rfl rfl rfl (by omega) hxj) rfl rfl ?_
  refine awt_s (md := fun _ => True) rfl (wt_none rfl) (aop_store_rp T0 rfl rfl rfl rfl rfl rfl rfl rfl (by solve | repeat' constructor) (by first | omega | (simp; omega)) (by omega) rfl trivial ?_)
  refine awe_end ?_
  simp only [cellsA]
  rw [fRows_set hj hG]
  exact cut_n ⟨rfl, rfl⟩ (by first | ((repeat' (first | exact True.intro | refine ⟨rfl, ?_⟩)); all_goals fail) | fail) (by solve | repeat' constructor)
end
end Go.Proofs.Ytilhflfbbfeakaa
end
section
namespace Go.Proofs.Ytilhflfbbfeakaa
open Go Go.RowKit Go.Tl
set_option linter.unusedVariables false
set_option linter.unusedSimpArgs false
set_option maxRecDepth 100000
set_option maxHeartbeats 4000000
attribute [local irreducible] AWP AWL AOp PV LV AWT AWE
/-- the rings and their total are proof -/
noncomputable def provR (b : BookD) (rs : List RingD) (total : Int) : Bool := decide (faultN b = 0) && (rs.all (ringB b) && (listedB b (madeL b rs) && decide (total ≤ sumI (madeL b rs))))
theorem rows_zero (n : Nat) (rs : List RingD) : List.replicate n [AV.v (Value.int .i64 0)] = fRows (madeN rs 0) n := by
  refine List.ext_getElem (by simp [fRows]) fun k h1 h2 => ?_
  simp [fRows, madeN, intRow]
theorem ring_next {r : RingD} {rs : List RingD} {i k q j : Nat} (e : r.cons.getD k 0 = (j : Int)) (hr : rs.getD i default = r) : madeN rs i q + ringN r (k + 1) q = if q = j then madeN rs i j + ringN r k j + r.amount else madeN rs i q + ringN r k q := by
  simp only [ringN]
  rw [e]
  by_cases c : q = j
  · subst c; rw [if_pos rfl, if_pos rfl]; omega
  · rw [if_neg (c := (j : Int) = (q : Int)) (by omega), if_neg c]; omega
/-- what Made returns -/
noncomputable def madeA (b : BookD) (rs : List RingD) : AV := if rs.all (ringB b) = true then .tup [.t (intsT true (madeL b rs)), boolA (listedB b (madeL b rs))] else .tup [noneA, boolA false]
theorem made_p (c1 c2 : Bool) (b : BookD) (rs : List RingD) (hv : VBook b) (hrl : rs.length ≤ 1000) (hcl : ∀ j, j < rs.length → (rs.getD j default).cons.length ≤ 1000) : PCall Try.prog 36 [bookA false b, .t (ringsT c1 c2 rs)] (fun r => r = madeA b rs) := by
  have hlen := hv.len
  have hh := hv.houses
  refine acall_of_awp T0 Try.func36 rfl rfl rfl ?_
  unfold madeA
  repeat (first | refine awp_seq ?_ | refine awp_region_lit rfl ?_)
  refine awl_hw (by first | exact wt_none rfl | exact wt_some' rfl rfl rfl rfl (by first | rfl | assumption | exact dT (by omega) | exact dF (by omega))) (st_box rfl rfl (by first | rfl | assumption) (by first | assumption | (simp only [cellsA]; rfl)) rfl rfl ?_)
  intro g2
  repeat (first | refine awp_seq ?_ | refine awp_region_lit rfl ?_ | ((first | (show AWL _ _ _ (⟨_, .assign _, _, _, _, _⟩ :: _) _ _ _; refine awl_pw ?w (pv_assign rfl rfl) rfl rfl ?_) | (show AWL _ _ _ (⟨_, .load _ _, _, _, _, _⟩ :: _) _ _ _; refine awl_lw ?w (lv_cl1 T0 rfl rfl rfl (by solve | repeat' constructor) (by first | rfl | assumption)) rfl rfl rfl ?_) | (show AWL _ _ _ (⟨_, .fieldAddr _ _ _, _, _, _, _⟩ :: _) _ _ _; refine awl_pw ?w (pv_fa T0 rfl rfl rfl (by simp; rfl)) rfl rfl ?_) | (show AWL _ _ _ (⟨_, .call ⟨.builtin .len, _, _⟩, _, _, _, _⟩ :: _) _ _ _; refine awl_pw ?w (pv_len_t T0 rfl rfl rfl) rfl rfl ?_)); case w => first | exact wt_none rfl | exact wt_some' rfl rfl rfl rfl (by first | rfl | assumption | exact dT (by omega) | exact dF (by omega))) | refine awl_nil ?_)
  refine awl_hw (by first | exact wt_none rfl | exact wt_some' rfl rfl rfl rfl (by first | rfl | assumption | exact dT (by omega) | exact dF (by omega))) (aop_make T0 rfl rfl rfl rfl rfl rfl rfl rfl (by omega) rfl ?_)
  intro ga
  repeat (first | refine awp_seq ?_ | refine awp_block ?_ | refine awp_region_lit rfl ?_ | ((first | (show AWL _ _ _ (⟨_, .assign _, _, _, _, _⟩ :: _) _ _ _; refine awl_pw ?w (pv_assign rfl rfl) rfl rfl ?_)); case w => first | exact wt_none rfl | exact wt_some' rfl rfl rfl rfl (by first | rfl | assumption | exact dT (by omega) | exact dF (by omega))) | refine awl_nil ?_)
  rw [rows_zero b.cons.length rs]
  refine awp_loop (fun m s h => ∃ (i : Nat), i ≤ rs.length ∧ m = rs.length - i ∧ (∀ j, j < i → isRing b (rs.getD j default)) ∧ s = [(1, .t (ringsT c1 c2 rs)), (2, .v (ptrV g2)), (6, .v (.slice (some ⟨ga, 0, none⟩) b.cons.length b.cons.length)), (7, intA i)] ∧ h = [refB g2 b, .rw (.slice (some ⟨ga, 0, none⟩) b.cons.length b.cons.length) 3 1 (fRows (madeN rs i) b.cons.length)]) ?_ ⟨0, Nat.zero_le _, rfl, (fun j hj => absurd hj (Nat.not_lt_zero _)), rfl, rfl⟩ (by first | ((repeat' (first | exact True.intro | refine ⟨rfl, ?_⟩)); all_goals fail) | fail) (by solve | repeat' constructor)
  rintro m s h ⟨i, hi, rfl, hr, rfl, rfl⟩
  by_cases hlt : i < rs.length
  · have hcl' := hcl i hlt
    cases eq : ringB b (rs.getD i default)
    · have hno : rs.all (ringB b) = false := by
        cases e : rs.all (ringB b)
        · rfl
        · have := (all_getD (d := default)).1 e i hlt
          rw [eq] at this; cases this
      rw [hno, if_neg (by simp)]
      repeat (first | refine awp_seq ?_ | refine awp_block ?_ | refine awp_region_lit rfl ?_ | refine awp_skip ?_ | refine then_n ?_ | refine awp_cond_t rfl (by first | rfl | assumption | exact dT (by omega)) ?_ | ((first | (show AWL _ _ _ (⟨_, .move _, _, _, _, _⟩ :: _) _ _ _; refine awl_pw ?w (pv_move rfl rfl) rfl rfl ?_) | (show AWL _ _ _ (⟨_, .binOp .lss _ _ _ _, _, _, _, _⟩ :: _) _ _ _; refine awl_pw ?w (pv_lss rfl rfl rfl) rfl rfl ?_) | (show AWL _ _ _ (⟨_, .call ⟨.builtin .len, _, _⟩, _, _, _, _⟩ :: _) _ _ _; refine awl_pw ?w (pv_len_t T0 rfl rfl rfl) rfl rfl ?_)); case w => first | exact wt_none rfl | exact wt_some' rfl rfl rfl rfl (by first | rfl | assumption | exact dT (by omega) | exact dF (by omega))) | refine awl_nil ?_)
      refine awp_tree T0 [(0, 1), (1, 0), (2, 0), (3, 0), (4, 1), (5, 3), (6, 0)] (.op 0 1 (.op 1 0 (.op 2 0 (.op 3 0 (.op 4 1 (.op 5 3 (.op 6 0 .stop))))))) [.cl g2 _ _] rfl (by kernel_rfl) (by solve | repeat' constructor) ?_
      refine awt_lo rfl (wt_none rfl) (lv_cla T0 rfl rfl rfl (by solve | repeat' constructor) rfl) rfl rfl rfl ?_
      refine awt_po rfl (wt_none rfl) (pv_move rfl rfl) rfl rfl ?_
      refine awt_po rfl (wt_none rfl) (pv_move rfl rfl) rfl rfl ?_
      refine awt_po rfl (wt_none rfl) (pv_ix_t T0 rfl rfl rfl rfl (by omega) (by first | exact Int.toNat_natCast _ | rfl)) rfl rfl ?_
      refine awt_lo rfl (wt_none rfl) (lv_elt_ag T0 rfl rfl rfl rfl (by solve | repeat' constructor)) rfl rfl rfl ?_
      refine awt_s (md := fun _ => True) rfl (wt_none rfl) (st_call T0 (isring_p c2 b (rs.getD i default) hv hcl') rfl rfl rfl rfl (by first | exact callee_lit | exact callee_v | exact callee_fn | assumption) (by solve | repeat' constructor) (by first | rfl | assumption) rfl ?_)
      (rintro r rfl; rw [eq])
      refine awe_p rfl (wt_none rfl) (pv_not rfl rfl) rfl rfl ?_
      refine awe_end ?_
      repeat (first | refine awp_seq ?_ | refine awp_region_lit rfl ?_ | refine awp_ret ?_ | refine then_n ?_ | refine then_r ?_ | refine blk_r ?_ | refine rnd_r ?_ | refine awp_cond_t rfl (by first | rfl | assumption | exact dT (by omega)) ?_ | ((first | (show AWL _ _ _ (⟨_, .assign _, _, _, _, _⟩ :: _) _ _ _; refine awl_pw ?w (pv_assign rfl rfl) rfl rfl ?_)); case w => first | exact wt_none rfl | exact wt_some' rfl rfl rfl rfl (by first | rfl | assumption | exact dT (by omega) | exact dF (by omega))) | refine awl_nil ?_)
      exact body_p (.cons rfl (.cons rfl .nil)) rfl
    have hri := ringB_iff.1 eq
    have hr' : ∀ j, j < i + 1 → isRing b (rs.getD j default) := fun j hj => by
      by_cases e' : j = i
      · subst e'; exact hri
      · exact hr j (by omega)
    have hmid : ∀ k h, k ≤ (rs.getD i default).cons.length → 0 ≤ madeN rs i h + ringN (rs.getD i default) k h ∧ madeN rs i h + ringN (rs.getD i default) k h ≤ 1000000000 := fun k h hk => by
      have h1 := madeN_bd hv h i (by omega) hr
      have h2 := ringN_bd hri.2.1 h k
      have h3 := ring_len hv hri
      omega
    have hz : madeN rs i = fun h => madeN rs i h + ringN (rs.getD i default) 0 h := by funext h; simp [ringN]
    have hz2 : madeN rs (i + 1) = fun h => madeN rs i h + ringN (rs.getD i default) (rs.getD i default).cons.length h := rfl
    repeat (first | refine awp_seq ?_ | refine awp_block ?_ | refine awp_region_lit rfl ?_ | refine awp_skip ?_ | refine then_n ?_ | refine awp_cond_t rfl (by first | rfl | assumption | exact dT (by omega)) ?_ | ((first | (show AWL _ _ _ (⟨_, .move _, _, _, _, _⟩ :: _) _ _ _; refine awl_pw ?w (pv_move rfl rfl) rfl rfl ?_) | (show AWL _ _ _ (⟨_, .binOp .lss _ _ _ _, _, _, _, _⟩ :: _) _ _ _; refine awl_pw ?w (pv_lss rfl rfl rfl) rfl rfl ?_) | (show AWL _ _ _ (⟨_, .call ⟨.builtin .len, _, _⟩, _, _, _, _⟩ :: _) _ _ _; refine awl_pw ?w (pv_len_t T0 rfl rfl rfl) rfl rfl ?_)); case w => first | exact wt_none rfl | exact wt_some' rfl rfl rfl rfl (by first | rfl | assumption | exact dT (by omega) | exact dF (by omega))) | refine awl_nil ?_)
    refine awp_tree T0 [(0, 1), (1, 0), (2, 0), (3, 0), (4, 1), (5, 3), (6, 0)] (.op 0 1 (.op 1 0 (.op 2 0 (.op 3 0 (.op 4 1 (.op 5 3 (.op 6 0 .stop))))))) [.cl g2 _ _] rfl (by kernel_rfl) (by solve | repeat' constructor) ?_
    refine awt_lo rfl (wt_none rfl) (lv_cla T0 rfl rfl rfl (by solve | repeat' constructor) rfl) rfl rfl rfl ?_
    refine awt_po rfl (wt_none rfl) (pv_move rfl rfl) rfl rfl ?_
    refine awt_po rfl (wt_none rfl) (pv_move rfl rfl) rfl rfl ?_
    refine awt_po rfl (wt_none rfl) (pv_ix_t T0 rfl rfl rfl rfl (by omega) (by first | exact Int.toNat_natCast _ | rfl)) rfl rfl ?_
    refine awt_lo rfl (wt_none rfl) (lv_elt_ag T0 rfl rfl rfl rfl (by solve | repeat' constructor)) rfl rfl rfl ?_
    refine awt_s (md := fun _ => True) rfl (wt_none rfl) (st_call T0 (isring_p c2 b (rs.getD i default) hv hcl') rfl rfl rfl rfl (by first | exact callee_lit | exact callee_v | exact callee_fn | assumption) (by solve | repeat' constructor) (by first | rfl | assumption) rfl ?_)
    (rintro r rfl; rw [eq])
    refine awe_p rfl (wt_none rfl) (pv_not rfl rfl) rfl rfl ?_
    refine awe_end ?_
    repeat (first | refine awp_seq ?_ | refine awp_block ?_ | refine awp_region_lit rfl ?_ | refine awp_skip ?_ | refine then_n ?_ | refine awp_cond_f rfl (by first | rfl | assumption | exact dF (by omega)) ?_ | ((first | (show AWL _ _ _ (⟨_, .assign _, _, _, _, _⟩ :: _) _ _ _; refine awl_pw ?w (pv_assign rfl rfl) rfl rfl ?_)); case w => first | exact wt_none rfl | exact wt_some' rfl rfl rfl rfl (by first | rfl | assumption | exact dT (by omega) | exact dF (by omega))) | refine awl_nil ?_)
    rw [hz]
    refine awp_loop (fun m s h => ∃ (k : Nat), k ≤ (rs.getD i default).cons.length ∧ m = (rs.getD i default).cons.length - k ∧ s = [(1, .t (ringsT c1 c2 rs)), (2, .v (ptrV g2)), (6, .v (.slice (some ⟨ga, 0, none⟩) b.cons.length b.cons.length)), (7, intA i), (8, intA k)] ∧ h = [refB g2 b, .rw (.slice (some ⟨ga, 0, none⟩) b.cons.length b.cons.length) 3 1 (fRows (fun h => madeN rs i h + ringN (rs.getD i default) k h) b.cons.length)]) ?_ ⟨0, Nat.zero_le _, rfl, rfl, rfl⟩ (by first | ((repeat' (first | exact True.intro | refine ⟨rfl, ?_⟩)); all_goals fail) | fail) (by solve | repeat' constructor)
    rintro m s h ⟨k, hk, rfl, rfl, rfl⟩
    by_cases hlt2 : k < (rs.getD i default).cons.length
    · have hok := okAt_lt (hri.2.2.1 k hlt2)
      repeat (first | refine awp_seq ?_ | refine awp_block ?_ | refine awp_region_lit rfl ?_ | refine awp_skip ?_ | refine then_n ?_ | refine awp_cond_t rfl (by first | rfl | assumption | exact dT (by omega)) ?_ | ((first | (show AWL _ _ _ (⟨_, .move _, _, _, _, _⟩ :: _) _ _ _; refine awl_pw ?w (pv_move rfl rfl) rfl rfl ?_) | (show AWL _ _ _ (⟨_, .load _ _, _, _, _, _⟩ :: _) _ _ _; refine awl_lw ?w (lv_elt_sl T0 rfl rfl rfl rfl) rfl rfl rfl ?_) | (show AWL _ _ _ (⟨_, .fieldAddr _ _ _, _, _, _, _⟩ :: _) _ _ _; refine awl_pw ?w (pv_fa_elt T0 rfl rfl rfl (by simp; rfl)) rfl rfl ?_) | (show AWL _ _ _ (⟨_, .indexAddr _ _ _, _, _, _, _⟩ :: _) _ _ _; refine awl_pw ?w (pv_ix_t T0 rfl rfl rfl rfl (by omega) (by first | exact Int.toNat_natCast _ | rfl)) rfl rfl ?_) | (show AWL _ _ _ (⟨_, .binOp .lss _ _ _ _, _, _, _, _⟩ :: _) _ _ _; refine awl_pw ?w (pv_lss rfl rfl rfl) rfl rfl ?_) | (show AWL _ _ _ (⟨_, .call ⟨.builtin .len, _, _⟩, _, _, _, _⟩ :: _) _ _ _; refine awl_pw ?w (pv_len_t T0 rfl rfl rfl) rfl rfl ?_)); case w => first | exact wt_none rfl | exact wt_some' rfl rfl rfl rfl (by first | rfl | assumption | exact dT (by omega) | exact dF (by omega))) | refine awl_nil ?_)
      refine awp_cutB _ (awp_weak (by first | ((repeat' (first | exact True.intro | refine ⟨rfl, ?_⟩)); all_goals fail) | fail) (by solve | repeat' constructor) (md_10 (rs := rs) (cp := c1) (c1 := c2) (ga := ga) (n := b.cons.length) (k := k) (i := i) (j := ((rs.getD i default).cons.getD k 0).toNat) (x := refB g2 b) (u2 := .v (ptrV g2)) (F := fun h => madeN rs i h + ringN (rs.getD i default) k h) (G := fun h => madeN rs i h + ringN (rs.getD i default) (k + 1) h) hlt hrl hlt2 hcl' (by omega) rfl hok.1 (by omega) hri.2.1 (hmid k _ hk) (fun q hq => ring_next hok.2 rfl) rfl)) ?_
      rintro s h ⟨rfl, rfl⟩
      repeat (first | refine awp_region_lit rfl ?_ | ((first | (show AWL _ _ _ (⟨_, .move _, _, _, _, _⟩ :: _) _ _ _; refine awl_pw ?w (pv_move rfl rfl) rfl rfl ?_) | (show AWL _ _ _ (⟨_, .assign _, _, _, _, _⟩ :: _) _ _ _; refine awl_pw ?w (pv_assign rfl rfl) rfl rfl ?_) | (show AWL _ _ _ (⟨_, .binOp .add _ _ _ _, _, _, _, _⟩ :: _) _ _ _; refine awl_pw ?w (pv_add rfl rfl rfl (by first | assumption | exact wr64 (by omega))) rfl rfl ?_)); case w => first | exact wt_none rfl | exact wt_some' rfl rfl rfl rfl (by first | rfl | assumption | exact dT (by omega) | exact dF (by omega))) | refine awl_nil ?_)
      refine rnd_n _ _ _ ?_ ⟨k + 1, hlt2, rfl, rfl, rfl⟩ (by first | ((repeat' (first | exact True.intro | refine ⟨rfl, ?_⟩)); all_goals fail) | fail) (by solve | repeat' constructor)
      omega
    obtain rfl : k = (rs.getD i default).cons.length := by omega
    repeat (first | refine awp_seq ?_ | refine awp_region_lit rfl ?_ | refine awp_exit ?_ | refine then_n ?_ | refine awp_cond_f rfl (by first | rfl | assumption | exact dF (by omega)) ?_ | ((first | (show AWL _ _ _ (⟨_, .move _, _, _, _, _⟩ :: _) _ _ _; refine awl_pw ?w (pv_move rfl rfl) rfl rfl ?_) | (show AWL _ _ _ (⟨_, .assign _, _, _, _, _⟩ :: _) _ _ _; refine awl_pw ?w (pv_assign rfl rfl) rfl rfl ?_) | (show AWL _ _ _ (⟨_, .load _ _, _, _, _, _⟩ :: _) _ _ _; refine awl_lw ?w (lv_elt_sl T0 rfl rfl rfl rfl) rfl rfl rfl ?_) | (show AWL _ _ _ (⟨_, .fieldAddr _ _ _, _, _, _, _⟩ :: _) _ _ _; refine awl_pw ?w (pv_fa_elt T0 rfl rfl rfl (by simp; rfl)) rfl rfl ?_) | (show AWL _ _ _ (⟨_, .indexAddr _ _ _, _, _, _, _⟩ :: _) _ _ _; refine awl_pw ?w (pv_ix_t T0 rfl rfl rfl rfl (by omega) (by first | exact Int.toNat_natCast _ | rfl)) rfl rfl ?_) | (show AWL _ _ _ (⟨_, .binOp .add _ _ _ _, _, _, _, _⟩ :: _) _ _ _; refine awl_pw ?w (pv_add rfl rfl rfl (by first | assumption | exact wr64 (by omega))) rfl rfl ?_) | (show AWL _ _ _ (⟨_, .binOp .lss _ _ _ _, _, _, _, _⟩ :: _) _ _ _; refine awl_pw ?w (pv_lss rfl rfl rfl) rfl rfl ?_) | (show AWL _ _ _ (⟨_, .call ⟨.builtin .len, _, _⟩, _, _, _, _⟩ :: _) _ _ _; refine awl_pw ?w (pv_len_t T0 rfl rfl rfl) rfl rfl ?_)); case w => first | exact wt_none rfl | exact wt_some' rfl rfl rfl rfl (by first | rfl | assumption | exact dT (by omega) | exact dF (by omega))) | refine awl_nil ?_)
    refine rnd_n _ _ _ ?_ ⟨i + 1, hlt, rfl, hr', rfl, by rw [hz2]⟩ (by first | ((repeat' (first | exact True.intro | refine ⟨rfl, ?_⟩)); all_goals fail) | fail) (by solve | repeat' constructor)
    omega
  obtain rfl : i = rs.length := by omega
  have hall : rs.all (ringB b) = true := (all_getD (d := default)).2 fun j hj => ringB_iff.2 (hr j hj)
  rw [if_pos hall]
  have hml : (madeL b rs).length = b.cons.length := made_len
  refine awp_ghost (ghost_freeze (E := 3) (sz := 1) (n := (madeL b rs).length) (rows := fRows (madeN rs rs.length) b.cons.length) (d := 6) (fun q => [.sc (.int .i64 ((madeL b rs).getD q 0))]) (by solve | repeat' constructor) rfl (by rw [fRows_len, hml]) (by rw [hml]; exact fRows_tree rfl)) ?_
  repeat (first | refine awp_seq ?_ | refine awp_region_lit rfl ?_ | refine awp_exit ?_ | refine then_n ?_ | refine awp_cond_f rfl (by first | rfl | assumption | exact dF (by omega)) ?_ | ((first | (show AWL _ _ _ (⟨_, .move _, _, _, _, _⟩ :: _) _ _ _; refine awl_pw ?w (pv_move rfl rfl) rfl rfl ?_) | (show AWL _ _ _ (⟨_, .load _ _, _, _, _, _⟩ :: _) _ _ _; refine awl_lw ?w (lv_cla T0 rfl rfl rfl (by solve | repeat' constructor) rfl) rfl rfl rfl ?_) | (show AWL _ _ _ (⟨_, .binOp .lss _ _ _ _, _, _, _, _⟩ :: _) _ _ _; refine awl_pw ?w (pv_lss rfl rfl rfl) rfl rfl ?_) | (show AWL _ _ _ (⟨_, .call ⟨.builtin .len, _, _⟩, _, _, _, _⟩ :: _) _ _ _; refine awl_pw ?w (pv_len_t T0 rfl rfl rfl) rfl rfl ?_)); case w => first | exact wt_none rfl | exact wt_some' rfl rfl rfl rfl (by first | rfl | assumption | exact dT (by omega) | exact dF (by omega))) | refine awl_nil ?_)
  refine awl_hw (by first | exact wt_none rfl | exact wt_some' rfl rfl rfl rfl (by first | rfl | assumption | exact dT (by omega) | exact dF (by omega))) (st_call T0 (rlisted_q (by omega) (by omega) (rfl : listedB b (madeL b rs) = listedB b (madeL b rs))) rfl rfl rfl rfl (by first | exact callee_lit | exact callee_v | exact callee_fn | assumption) (by solve | repeat' constructor) (by first | rfl | assumption) rfl ?_)
  rintro _ rfl
  repeat (first | refine awp_ret ?_ | ((first | (show AWL _ _ _ (⟨_, .assign _, _, _, _, _⟩ :: _) _ _ _; refine awl_pw ?w (pv_assign rfl rfl) rfl rfl ?_)); case w => first | exact wt_none rfl | exact wt_some' rfl rfl rfl rfl (by first | rfl | assumption | exact dT (by omega) | exact dF (by omega))) | refine awl_nil ?_)
  exact body_p (.cons rfl (.cons rfl .nil)) rfl
def ringRow (r : RingD) : List AV := [.t (intsT true r.cons), intA r.amount]
section
variable {rs : List RingD} {cp c1 : Bool} {k : Nat} {a : Option Addr} {c : Nat} {rows : List (List AV)}
end
end Go.Proofs.Ytilhflfbbfeakaa
end
