/- Money and Fails of the reference: their walks; what is lost, plain. -/
import Derived.Test.YtilhflfbbfeakaaRi
namespace Go.Proofs.Ytilhflfbbfeakaa
open Go Go.RowKit Go.Tl
set_option linter.unusedVariables false
set_option linter.unusedSimpArgs false
set_option maxRecDepth 100000
set_option maxHeartbeats 4000000
attribute [local irreducible] AWP AWL AOp PV LV AWT AWE
abbrev rmS (p : Int) (g2 g7 ga n k : Nat) : Slots := [(1, intA p), (2, .v (ptrV g2)), (5, .v (.slice (some ⟨ga, 0, none⟩) n n)), (6, intA k), (7, .v (ptrV g7))]
section
variable {c : ConD} {p : Int} {e2 : Ent} {g2 g7 ga n k j : Nat} {F G : Nat → Int}
theorem rm_6 (hj : c.frm = (j : Int)) (hjn : j < n) (hn : n ≤ 1000) (b1 : -1000000000 ≤ F j ∧ F j ≤ 1000000000) (b2 : -1000000 ≤ c.num * (c.price - p) ∧ c.num * (c.price - p) ≤ 1000000) (b3 : 1 ≤ c.price ∧ c.price ≤ 1000) (b4 : 1 ≤ p ∧ p ≤ 1000) (hG : ∀ q, q < n → G q = if q = j then F j + c.num * (c.price - p) else F q) {ops : Array Oper} (h : regF Try.f28 6 = some ops) :
    AWP Try.prog Try.f28.ntmps none (.region 6 ops true) (cutQ (fun s h => s = rmS p g2 g7 ga n k ∧ h = [e2, .cl g7 67 [intA c.frm, intA c.to, intA c.num, intA c.price], .rw (.slice (some ⟨ga, 0, none⟩) n n) 3 1 (fRows G n)])) (rmS p g2 g7 ga n k) [e2, .cl g7 67 [intA c.frm, intA c.to, intA c.num, intA c.price], .rw (.slice (some ⟨ga, 0, none⟩) n n) 3 1 (fRows F n)] := by
  cases h
  have r1 : ((fRows F n).getD j [])[0]? = some (intA (F j)) := fRows_at hjn
  have r2 := fRows_len F n
  have hjt : c.frm.toNat = j := by omega
  refine awp_tree T0 [(0, 0), (1, 0), (2, 1), (3, 0), (4, 1), (5, 0), (6, 1), (7, 0), (8, 1), (9, 0), (10, 0), (11, 0), (12, 0), (13, 0), (14, 3)] (.op 0 0 (.op 1 0 (.op 2 1 (.op 3 0 (.op 4 1 (.op 5 0 (.op 6 1 (.op 7 0 (.op 8 1 (.op 9 0 (.op 10 0 (.op 11 0 (.op 12 0 (.op 13 0 (.op 14 3 .stop))))))))))))))) [.cl g7 _ _, .rw _ _ _ _] rfl (by kernel_rfl) (by solve | repeat' constructor) ?_
  refine awt_po rfl (wt_none rfl) (pv_move rfl rfl) rfl rfl ?_
  refine awt_po rfl (wt_none rfl) (pv_fa T0 rfl rfl rfl (by simp; rfl)) rfl rfl ?_
  refine awt_lo rfl (wt_none rfl) (lv_cl1 T0 rfl rfl rfl (by solve | repeat' constructor) (by first | rfl | assumption)) rfl rfl rfl ?_
  refine awt_po rfl (wt_none rfl) (pv_ix_own T0 rfl rfl rfl rfl (by omega) hjt) rfl rfl ?_
  refine awt_lo rfl (wt_none rfl) (lv_rp T0 rfl rfl rfl (by solve | repeat' constructor) (by first | omega | (simp; omega)) (by omega) (by first | assumption | rfl)) rfl rfl rfl ?_
  refine awt_po rfl (wt_none rfl) (pv_fa T0 rfl rfl rfl (by simp; rfl)) rfl rfl ?_
  refine awt_lo rfl (wt_none rfl) (lv_cl1 T0 rfl rfl rfl (by solve | repeat' constructor) (by first | rfl | assumption)) rfl rfl rfl ?_
  refine awt_po rfl (wt_none rfl) (pv_fa T0 rfl rfl rfl (by simp; rfl)) rfl rfl ?_
  refine awt_lo rfl (wt_none rfl) (lv_cl1 T0 rfl rfl rfl (by solve | repeat' constructor) (by first | rfl | assumption)) rfl rfl rfl ?_
  refine awt_po rfl (wt_none rfl) (pv_move rfl rfl) rfl rfl ?_
  refine awt_po rfl (wt_none rfl) (pv_sub rfl rfl rfl (by first | assumption | exact wr64 (by omega))) rfl rfl ?_
  refine awt_po rfl (wt_none rfl) (pv_mul rfl rfl rfl (by first | assumption | exact wr64 (by omega))) rfl rfl ?_
  refine awt_po rfl (wt_none rfl) (pv_add rfl rfl rfl (by first | assumption | exact wr64 (by omega))) rfl rfl ?_
  refine awt_po rfl (wt_none rfl) (pv_ix_own T0 rfl rfl rfl rfl (by omega) hjt) rfl rfl ?_
  refine awt_s (md := fun _ => True) rfl (wt_none rfl) (aop_store_rp T0 rfl rfl rfl rfl rfl rfl rfl rfl (by solve | repeat' constructor) (by first | omega | (simp; omega)) (by omega) rfl trivial ?_)
  refine awe_end ?_
  simp only [cellsA]
  rw [fRows_set hjn hG]
  exact cut_n ⟨rfl, rfl⟩ (by first | ((repeat' (first | exact True.intro | refine ⟨rfl, ?_⟩)); all_goals fail) | fail) (by solve | repeat' constructor)
theorem rm_7 (hj : c.to = (j : Int)) (hjn : j < n) (hn : n ≤ 1000) (b1 : -1000000000 ≤ F j ∧ F j ≤ 1000000000) (b2 : -1000000 ≤ c.num * (c.price - p) ∧ c.num * (c.price - p) ≤ 1000000) (b3 : 1 ≤ c.price ∧ c.price ≤ 1000) (b4 : 1 ≤ p ∧ p ≤ 1000) (hG : ∀ q, q < n → G q = if q = j then F j - c.num * (c.price - p) else F q) {ops : Array Oper} (h : regF Try.f28 7 = some ops) :
    AWP Try.prog Try.f28.ntmps none (.region 7 ops true) (cutQ (fun s h => s = rmS p g2 g7 ga n k ∧ h = [e2, .cl g7 67 [intA c.frm, intA c.to, intA c.num, intA c.price], .rw (.slice (some ⟨ga, 0, none⟩) n n) 3 1 (fRows G n)])) (rmS p g2 g7 ga n k) [e2, .cl g7 67 [intA c.frm, intA c.to, intA c.num, intA c.price], .rw (.slice (some ⟨ga, 0, none⟩) n n) 3 1 (fRows F n)] := by
  cases h
  have r1 : ((fRows F n).getD j [])[0]? = some (intA (F j)) := fRows_at hjn
  have r2 := fRows_len F n
  have hjt : c.to.toNat = j := by omega
  refine awp_tree T0 [(0, 0), (1, 0), (2, 1), (3, 0), (4, 1), (5, 0), (6, 1), (7, 0), (8, 1), (9, 0), (10, 0), (11, 0), (12, 0), (13, 0), (14, 3)] (.op 0 0 (.op 1 0 (.op 2 1 (.op 3 0 (.op 4 1 (.op 5 0 (.op 6 1 (.op 7 0 (.op 8 1 (.op 9 0 (.op 10 0 (.op 11 0 (.op 12 0 (.op 13 0 (.op 14 3 .stop))))))))))))))) [.cl g7 _ _, .rw _ _ _ _] rfl (by kernel_rfl) (by solve | repeat' constructor) ?_
  refine awt_po rfl (wt_none rfl) (pv_move rfl rfl) rfl rfl ?_
  refine awt_po rfl (wt_none rfl) (pv_fa T0 rfl rfl rfl (by simp; rfl)) rfl rfl ?_
  refine awt_lo rfl (wt_none rfl) (lv_cl1 T0 rfl rfl rfl (by solve | repeat' constructor) (by first | rfl | assumption)) rfl rfl rfl ?_
  refine awt_po rfl (wt_none rfl) (pv_ix_own T0 rfl rfl rfl rfl (by omega) hjt) rfl rfl ?_
  refine awt_lo rfl (wt_none rfl) (lv_rp T0 rfl rfl rfl (by solve | repeat' constructor) (by first | omega | (simp; omega)) (by omega) (by first | assumption | rfl)) rfl rfl rfl ?_
  refine awt_po rfl (wt_none rfl) (pv_fa T0 rfl rfl rfl (by simp; rfl)) rfl rfl ?_
  refine awt_lo rfl (wt_none rfl) (lv_cl1 T0 rfl rfl rfl (by solve | repeat' constructor) (by first | rfl | assumption)) rfl rfl rfl ?_
  refine awt_po rfl (wt_none rfl) (pv_fa T0 rfl rfl rfl (by simp; rfl)) rfl rfl ?_
  refine awt_lo rfl (wt_none rfl) (lv_cl1 T0 rfl rfl rfl (by solve | repeat' constructor) (by first | rfl | assumption)) rfl rfl rfl ?_
  refine awt_po rfl (wt_none rfl) (pv_move rfl rfl) rfl rfl ?_
  refine awt_po rfl (wt_none rfl) (pv_sub rfl rfl rfl (by first | assumption | exact wr64 (by omega))) rfl rfl ?_
  refine awt_po rfl (wt_none rfl) (pv_mul rfl rfl rfl (by first | assumption | exact wr64 (by omega))) rfl rfl ?_
  refine awt_po rfl (wt_none rfl) (pv_sub rfl rfl rfl (by first | assumption | exact wr64 (by omega))) rfl rfl ?_
  refine awt_po rfl (wt_none rfl) (pv_ix_own T0 rfl rfl rfl rfl (by omega) hjt) rfl rfl ?_
  refine awt_s (md := fun _ => True) rfl (wt_none rfl) (aop_store_rp T0 rfl rfl rfl rfl rfl rfl rfl rfl (by solve | repeat' constructor) (by first | omega | (simp; omega)) (by omega) rfl trivial ?_)
  refine awe_end ?_
  simp only [cellsA]
  rw [fRows_set hjn hG]
  exact cut_n ⟨rfl, rfl⟩ (by first | ((repeat' (first | exact True.intro | refine ⟨rfl, ?_⟩)); all_goals fail) | fail) (by solve | repeat' constructor)
end
abbrev rfS (house p : Int) (g3 g9 ga n k : Nat) : Slots := [(1, intA house), (2, intA p), (3, .v (ptrV g3)), (7, .v (.slice (some ⟨ga, 0, none⟩) n n)), (8, intA k), (9, .v (ptrV g9))]
section
variable {c : ConD} {house p : Int} {e2 : Ent} {g3 g9 ga n k j : Nat} {F G : Nat → Int}
theorem rf_7 (hj : c.to = (j : Int)) (hjn : j < n) (hn : n ≤ 1000) (b1 : -1000000000 ≤ F j ∧ F j ≤ 1000000000) (b2 : -1000000 ≤ c.num * (c.price - p) ∧ c.num * (c.price - p) ≤ 1000000) (b3 : 1 ≤ c.price ∧ c.price ≤ 1000) (b4 : 1 ≤ p ∧ p ≤ 1000) (hG : ∀ q, q < n → G q = if q = j then F j - c.num * (c.price - p) else F q) {ops : Array Oper} (h : regF Try.f29 7 = some ops) :
    AWP Try.prog Try.f29.ntmps none (.region 7 ops true) (cutQ (fun s h => s = rfS house p g3 g9 ga n k ∧ h = [e2, .cl g9 67 [intA c.frm, intA c.to, intA c.num, intA c.price], .rw (.slice (some ⟨ga, 0, none⟩) n n) 3 1 (fRows G n)])) (rfS house p g3 g9 ga n k) [e2, .cl g9 67 [intA c.frm, intA c.to, intA c.num, intA c.price], .rw (.slice (some ⟨ga, 0, none⟩) n n) 3 1 (fRows F n)] := by
  cases h
  have r1 : ((fRows F n).getD j [])[0]? = some (intA (F j)) := fRows_at hjn
  have r2 := fRows_len F n
  have hjt : c.to.toNat = j := by omega
  refine awp_tree T0 [(0, 0), (1, 0), (2, 1), (3, 0), (4, 1), (5, 0), (6, 1), (7, 0), (8, 1), (9, 0), (10, 0), (11, 0), (12, 0), (13, 0), (14, 3)] (.op 0 0 (.op 1 0 (.op 2 1 (.op 3 0 (.op 4 1 (.op 5 0 (.op 6 1 (.op 7 0 (.op 8 1 (.op 9 0 (.op 10 0 (.op 11 0 (.op 12 0 (.op 13 0 (.op 14 3 .stop))))))))))))))) [.cl g9 _ _, .rw _ _ _ _] rfl (by kernel_rfl) (by solve | repeat' constructor) ?_
  refine awt_po rfl (wt_none rfl) (pv_move rfl rfl) rfl rfl ?_
  refine awt_po rfl (wt_none rfl) (pv_fa T0 rfl rfl rfl (by simp; rfl)) rfl rfl ?_
  refine awt_lo rfl (wt_none rfl) (lv_cl1 T0 rfl rfl rfl (by solve | repeat' constructor) (by first | rfl | assumption)) rfl rfl rfl ?_
  refine awt_po rfl (wt_none rfl) (pv_ix_own T0 rfl rfl rfl rfl (by omega) hjt) rfl rfl ?_
  refine awt_lo rfl (wt_none rfl) (lv_rp T0 rfl rfl rfl (by solve | repeat' constructor) (by first | omega | (simp; omega)) (by omega) (by first | assumption | rfl)) rfl rfl rfl ?_
  refine awt_po rfl (wt_none rfl) (pv_fa T0 rfl rfl rfl (by simp; rfl)) rfl rfl ?_
  refine awt_lo rfl (wt_none rfl) (lv_cl1 T0 rfl rfl rfl (by solve | repeat' constructor) (by first | rfl | assumption)) rfl rfl rfl ?_
  refine awt_po rfl (wt_none rfl) (pv_fa T0 rfl rfl rfl (by simp; rfl)) rfl rfl ?_
  refine awt_lo rfl (wt_none rfl) (lv_cl1 T0 rfl rfl rfl (by solve | repeat' constructor) (by first | rfl | assumption)) rfl rfl rfl ?_
  refine awt_po rfl (wt_none rfl) (pv_move rfl rfl) rfl rfl ?_
  refine awt_po rfl (wt_none rfl) (pv_sub rfl rfl rfl (by first | assumption | exact wr64 (by omega))) rfl rfl ?_
  refine awt_po rfl (wt_none rfl) (pv_mul rfl rfl rfl (by first | assumption | exact wr64 (by omega))) rfl rfl ?_
  refine awt_po rfl (wt_none rfl) (pv_sub rfl rfl rfl (by first | assumption | exact wr64 (by omega))) rfl rfl ?_
  refine awt_po rfl (wt_none rfl) (pv_ix_own T0 rfl rfl rfl rfl (by omega) hjt) rfl rfl ?_
  refine awt_s (md := fun _ => True) rfl (wt_none rfl) (aop_store_rp T0 rfl rfl rfl rfl rfl rfl rfl rfl (by solve | repeat' constructor) (by first | omega | (simp; omega)) (by omega) rfl trivial ?_)
  refine awe_end ?_
  simp only [cellsA]
  rw [fRows_set hjn hG]
  exact cut_n ⟨rfl, rfl⟩ (by first | ((repeat' (first | exact True.intro | refine ⟨rfl, ?_⟩)); all_goals fail) | fail) (by solve | repeat' constructor)
theorem rf_9 (hj : c.frm = (j : Int)) (hjn : j < n) (hn : n ≤ 1000) (b1 : -1000000000 ≤ F j ∧ F j ≤ 1000000000) (b2 : -1000000 ≤ c.num * (c.price - p) ∧ c.num * (c.price - p) ≤ 1000000) (b3 : 1 ≤ c.price ∧ c.price ≤ 1000) (b4 : 1 ≤ p ∧ p ≤ 1000) (hG : ∀ q, q < n → G q = if q = j then F j + c.num * (c.price - p) else F q) {ops : Array Oper} (h : regF Try.f29 9 = some ops) :
    AWP Try.prog Try.f29.ntmps none (.region 9 ops true) (cutQ (fun s h => s = rfS house p g3 g9 ga n k ∧ h = [e2, .cl g9 67 [intA c.frm, intA c.to, intA c.num, intA c.price], .rw (.slice (some ⟨ga, 0, none⟩) n n) 3 1 (fRows G n)])) (rfS house p g3 g9 ga n k) [e2, .cl g9 67 [intA c.frm, intA c.to, intA c.num, intA c.price], .rw (.slice (some ⟨ga, 0, none⟩) n n) 3 1 (fRows F n)] := by
  cases h
  have r1 : ((fRows F n).getD j [])[0]? = some (intA (F j)) := fRows_at hjn
  have r2 := fRows_len F n
  have hjt : c.frm.toNat = j := by omega
  refine awp_tree T0 [(0, 0), (1, 0), (2, 1), (3, 0), (4, 1), (5, 0), (6, 1), (7, 0), (8, 1), (9, 0), (10, 0), (11, 0), (12, 0), (13, 0), (14, 3)] (.op 0 0 (.op 1 0 (.op 2 1 (.op 3 0 (.op 4 1 (.op 5 0 (.op 6 1 (.op 7 0 (.op 8 1 (.op 9 0 (.op 10 0 (.op 11 0 (.op 12 0 (.op 13 0 (.op 14 3 .stop))))))))))))))) [.cl g9 _ _, .rw _ _ _ _] rfl (by kernel_rfl) (by solve | repeat' constructor) ?_
  refine awt_po rfl (wt_none rfl) (pv_move rfl rfl) rfl rfl ?_
  refine awt_po rfl (wt_none rfl) (pv_fa T0 rfl rfl rfl (by simp; rfl)) rfl rfl ?_
  refine awt_lo rfl (wt_none rfl) (lv_cl1 T0 rfl rfl rfl (by solve | repeat' constructor) (by first | rfl | assumption)) rfl rfl rfl ?_
  refine awt_po rfl (wt_none rfl) (pv_ix_own T0 rfl rfl rfl rfl (by omega) hjt) rfl rfl ?_
  refine awt_lo rfl (wt_none rfl) (lv_rp T0 rfl rfl rfl (by solve | repeat' constructor) (by first | omega | (simp; omega)) (by omega) (by first | assumption | rfl)) rfl rfl rfl ?_
  refine awt_po rfl (wt_none rfl) (pv_fa T0 rfl rfl rfl (by simp; rfl)) rfl rfl ?_
  refine awt_lo rfl (wt_none rfl) (lv_cl1 T0 rfl rfl rfl (by solve | repeat' constructor) (by first | rfl | assumption)) rfl rfl rfl ?_
  refine awt_po rfl (wt_none rfl) (pv_fa T0 rfl rfl rfl (by simp; rfl)) rfl rfl ?_
  refine awt_lo rfl (wt_none rfl) (lv_cl1 T0 rfl rfl rfl (by solve | repeat' constructor) (by first | rfl | assumption)) rfl rfl rfl ?_
  refine awt_po rfl (wt_none rfl) (pv_move rfl rfl) rfl rfl ?_
  refine awt_po rfl (wt_none rfl) (pv_sub rfl rfl rfl (by first | assumption | exact wr64 (by omega))) rfl rfl ?_
  refine awt_po rfl (wt_none rfl) (pv_mul rfl rfl rfl (by first | assumption | exact wr64 (by omega))) rfl rfl ?_
  refine awt_po rfl (wt_none rfl) (pv_add rfl rfl rfl (by first | assumption | exact wr64 (by omega))) rfl rfl ?_
  refine awt_po rfl (wt_none rfl) (pv_ix_own T0 rfl rfl rfl rfl (by omega) hjt) rfl rfl ?_
  refine awt_s (md := fun _ => True) rfl (wt_none rfl) (aop_store_rp T0 rfl rfl rfl rfl rfl rfl rfl rfl (by solve | repeat' constructor) (by first | omega | (simp; omega)) (by omega) rfl trivial ?_)
  refine awe_end ?_
  simp only [cellsA]
  rw [fRows_set hjn hG]
  exact cut_n ⟨rfl, rfl⟩ (by first | ((repeat' (first | exact True.intro | refine ⟨rfl, ?_⟩)); all_goals fail) | fail) (by solve | repeat' constructor)
end
/-- the sum over contracts -/
def sumS (st : ConD → Int) : List ConD → Int
  | [] => 0
  | c :: l => st c + sumS st l
theorem sumS_append (st : ConD → Int) (l m : List ConD) : sumS st (l ++ m) = sumS st l + sumS st m := by
  induction l with
  | nil => simp [sumS]
  | cons c l ih => simp only [List.cons_append, sumS, ih]; omega
theorem sumS_of {st : ConD → Int} {cs : List ConD} {F : Nat → Int} (h0 : F 0 = 0) (hs : ∀ k, k < cs.length → F (k + 1) = F k + st (cs.getD k default)) : ∀ k, k ≤ cs.length → F k = sumS st (cs.take k)
  | 0, _ => by simp [sumS, h0]
  | k + 1, hk => by
    have e : cs.getD k default = cs[k] := by simp [List.getD_eq_getElem?_getD, show k < cs.length by omega]
    rw [hs k (by omega), sumS_of h0 hs k (by omega), List.take_succ_eq_append_getElem (by omega), sumS_append, e]
    simp [sumS]
theorem sumS_filter {st st' : ConD → Int} {keep : ConD → Bool} : ∀ (cs : List ConD), (∀ c ∈ cs, (keep c = true → st c = st' c) ∧ (keep c = false → st' c = 0)) → sumS st (cs.filter keep) = sumS st' cs
  | [], _ => rfl
  | c :: cs, h => by
    have ih := sumS_filter cs (fun c hc => h c (by simp [hc]))
    have h0 := h c (by simp)
    cases hk : keep c
    · rw [List.filter_cons_of_neg (by simp [hk]), ih]; simp only [sumS]; rw [h0.2 hk]; omega
    · rw [List.filter_cons_of_pos hk]; simp only [sumS]; rw [ih, h0.1 hk]
/-- what the reference has for a house after the first contracts -/
def rfN (cs : List ConD) (house p : Int) : Nat → Nat → Int
  | 0, _ => 0
  | k + 1, h => rfN cs house p k h - (if (cs.getD k default).frm = house ∧ (cs.getD k default).to = (h : Int) then (cs.getD k default).num * ((cs.getD k default).price - p) else 0) + (if (cs.getD k default).to = house ∧ (cs.getD k default).frm = (h : Int) then (cs.getD k default).num * ((cs.getD k default).price - p) else 0)
theorem fail_eq {b : BookD} (hv : VBook b) (house p : Int) (h : Nat) : (if (h : Int) = house then 0 else max (failN b house p h) 0) = max 0 (rfN b.cons house p b.cons.length h) := by
  have e2 : rfN b.cons house p b.cons.length h = sumS (fun c => -(if c.frm = house ∧ c.to = (h : Int) then c.num * (c.price - p) else 0) + (if c.to = house ∧ c.frm = (h : Int) then c.num * (c.price - p) else 0)) b.cons := by
    rw [sumS_of (F := fun k => rfN b.cons house p k h) (st := fun c => -(if c.frm = house ∧ c.to = (h : Int) then c.num * (c.price - p) else 0) + (if c.to = house ∧ c.frm = (h : Int) then c.num * (c.price - p) else 0)) rfl (fun k hk => by simp only [rfN]; omega) b.cons.length (Nat.le_refl _), List.take_length]
  have hne : ∀ c ∈ b.cons, c.frm ≠ c.to := fun c hc => by
    obtain ⟨j, hj, rfl⟩ := mem_getD (d := default) hc
    exact hv.ne j hj
  by_cases hh : (h : Int) = house
  · rw [if_pos hh, e2]
    have : sumS (fun c => -(if c.frm = house ∧ c.to = (h : Int) then c.num * (c.price - p) else 0) + (if c.to = house ∧ c.frm = (h : Int) then c.num * (c.price - p) else 0)) b.cons = sumS (fun _ => 0) (b.cons.filter fun _ => false) := (sumS_filter b.cons fun c hc => ⟨fun h => (by cases h), fun _ => by
      have := hne c hc
      rw [if_neg (by omega), if_neg (by omega)]; rfl⟩).symm
    rw [this]
    have : (b.cons.filter fun _ => false) = [] := by simp
    rw [this]; rfl
  · rw [if_neg hh]
    have e1 : failN b house p h = sumS (fun c => (if c.to = (h : Int) then -(c.num * (c.price - p)) else 0) - (if c.frm = (h : Int) then -(c.num * (c.price - p)) else 0)) (b.cons.filter fun c => !delQ house c) := by
      show accN (b.cons.filter fun c => !delQ house c) _ _ h = _
      have := sumS_of (cs := b.cons.filter fun c => !delQ house c) (F := fun k => accN (b.cons.filter fun c => !delQ house c) (fun i => -(payF (subB b house) p i)) k h) (st := fun c => (if c.to = (h : Int) then -(c.num * (c.price - p)) else 0) - (if c.frm = (h : Int) then -(c.num * (c.price - p)) else 0)) rfl (fun k hk => by simp only [accN]; show _ + (if _ then -(payF (subB b house) p k) else 0) - (if _ then -(payF (subB b house) p k) else 0) = _; unfold payF subB; simp only; omega) (b.cons.filter fun c => !delQ house c).length (Nat.le_refl _)
      rw [List.take_length] at this
      exact this
    have e3 := sumS_filter (st := fun c => (if c.to = (h : Int) then -(c.num * (c.price - p)) else 0) - (if c.frm = (h : Int) then -(c.num * (c.price - p)) else 0)) (st' := fun c => -(if c.frm = house ∧ c.to = (h : Int) then c.num * (c.price - p) else 0) + (if c.to = house ∧ c.frm = (h : Int) then c.num * (c.price - p) else 0)) (keep := fun c => !delQ house c) b.cons (fun c hc => by
      have hn := hne c hc
      simp only [delQ]
      constructor
      · intro hk
        have hk' : c.frm = house ∨ c.to = house := by
          by_cases q1 : c.frm = house
          · exact .inl q1
          · by_cases q2 : c.to = house
            · exact .inr q2
            · simp [q1, q2] at hk
        rcases hk' with hk' | hk'
        · rw [if_neg (c := c.frm = (h : Int)) (by omega), if_neg (c := c.to = house ∧ c.frm = (h : Int)) (by omega)]
          by_cases q : c.to = (h : Int)
          · rw [if_pos q, if_pos ⟨hk', q⟩]; omega
          · rw [if_neg q, if_neg (fun x => q x.2)]; omega
        · rw [if_neg (c := c.to = (h : Int)) (by omega), if_neg (c := c.frm = house ∧ c.to = (h : Int)) (by omega)]
          by_cases q : c.frm = (h : Int)
          · rw [if_pos q, if_pos ⟨hk', q⟩]; omega
          · rw [if_neg q, if_neg (fun x => q x.2)]; omega
      · intro hk
        have hk' : c.frm ≠ house ∧ c.to ≠ house := by
          simp only [Bool.not_eq_false', Bool.and_eq_true, decide_eq_true_eq] at hk
          exact hk
        rw [if_neg (fun x => hk'.1 x.1), if_neg (fun x => hk'.2 x.1)]; rfl)
    rw [e1, e2, e3]
    omega
end Go.Proofs.Ytilhflfbbfeakaa
