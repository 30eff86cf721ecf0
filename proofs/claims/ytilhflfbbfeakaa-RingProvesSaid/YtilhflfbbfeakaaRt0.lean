/- What rings make up, plain: all differences are 0; the drawn regions of Made and of ProveRings. -/
import Derived.Test.YtilhflfbbfeakaaRs
namespace Go.Proofs.Ytilhflfbbfeakaa
open Go Go.RowKit Go.Tl
set_option linter.unusedVariables false
set_option linter.unusedSimpArgs false
set_option maxRecDepth 100000
set_option maxHeartbeats 4000000
/-- what the first contracts of a ring add to one -/
def ringN (r : RingD) : Nat → Nat → Int
  | 0, h => 0
  | k + 1, h => ringN r k h + (if r.cons.getD k 0 = (h : Int) then r.amount else 0)
/-- what the first rings make up -/
def madeN (rs : List RingD) : Nat → Nat → Int
  | 0, h => 0
  | i + 1, h => madeN rs i h + ringN (rs.getD i default) (rs.getD i default).cons.length h
def madeL (b : BookD) (rs : List RingD) : List Int := (List.range b.cons.length).map (madeN rs rs.length)
theorem made_len {b : BookD} {rs : List RingD} : (madeL b rs).length = b.cons.length := by simp [madeL]
theorem made_at {b : BookD} {rs : List RingD} {h : Nat} (hh : h < b.cons.length) : (madeL b rs).getD h 0 = madeN rs rs.length h := by
  simp [madeL, List.getD_eq_getElem?_getD, hh]
theorem ringN_bd {r : RingD} (ha : 1 ≤ r.amount ∧ r.amount ≤ 100) (h : Nat) : ∀ k, 0 ≤ ringN r k h ∧ ringN r k h ≤ 100 * k
  | 0 => by simp [ringN]
  | k + 1 => by
    have ih := ringN_bd ha h k
    simp only [ringN]
    split <;> omega
theorem madeN_bd {b : BookD} {rs : List RingD} (hv : VBook b) (h : Nat) : ∀ i, i ≤ rs.length → (∀ j, j < i → isRing b (rs.getD j default)) → 0 ≤ madeN rs i h ∧ madeN rs i h ≤ 600 * i
  | 0, _, _ => by simp [madeN]
  | i + 1, hi, hr => by
    have ih := madeN_bd hv h i (by omega) (fun j hj => hr j (by omega))
    have hri := hr i (by omega)
    have h1 := ringN_bd hri.2.1 h (rs.getD i default).cons.length
    have h2 := ring_len hv hri
    have h3 := hv.houses
    simp only [madeN]
    omega
theorem acc_add {cs : List ConD} {f g : Nat → Int} (h : Nat) : ∀ k, accN cs (fun i => f i + g i) k h = accN cs f k h + accN cs g k h
  | 0 => rfl
  | k + 1 => by
    simp only [accN]
    rw [acc_add h k]
    split <;> split <;> omega
theorem acc_zero {cs : List ConD} (h : Nat) : ∀ k, accN cs (fun _ => 0) k h = 0
  | 0 => rfl
  | k + 1 => by
    simp only [accN]
    rw [acc_zero h k]
    split <;> split <;> rfl
theorem acc_one {cs : List ConD} {x : Nat} {v : Int} (h : Nat) : ∀ k, accN cs (fun i => if (x : Int) = (i : Int) then v else 0) k h = if x < k then (if (cs.getD x default).to = (h : Int) then v else 0) - (if (cs.getD x default).frm = (h : Int) then v else 0) else 0
  | 0 => by simp [accN]
  | k + 1 => by
    simp only [accN]
    rw [acc_one h k]
    by_cases e : x = k
    · subst e
      rw [if_neg (Nat.lt_irrefl _), if_pos (Nat.lt_succ_self _), if_pos rfl]
      omega
    · rw [if_neg (c := (x : Int) = (k : Int)) (by omega)]
      simp only [ite_self, Int.add_zero, Int.sub_zero]
      by_cases c : x < k
      · rw [if_pos c, if_pos (c := x < k + 1) (by omega)]
      · rw [if_neg c, if_neg (c := x < k + 1) (by omega)]
theorem sumR_shift (F : Nat → Int) : ∀ n, sumR n (fun j => F (j + 1)) + F 0 = sumR (n + 1) F
  | 0 => by simp [sumR, sumI]
  | n + 1 => by
    rw [sumR_succ, sumR_succ (n + 1), ← sumR_shift F n]
    omega
theorem sumR_turn {n : Nat} (hn : 1 ≤ n) (F : Nat → Int) : sumR n (fun j => F ((j + 1) % n)) = sumR n F := by
  obtain ⟨m, rfl⟩ : ∃ m, n = m + 1 := ⟨n - 1, by omega⟩
  rw [sumR_succ, ← sumR_shift F m, Nat.mod_self]
  congr 1
  exact sumR_congr fun i hi => by rw [Nat.mod_eq_of_lt (by omega)]
theorem ring_acc {b : BookD} {r : RingD} (hr : isRing b r) (h : Nat) : ∀ k, k ≤ r.cons.length → accN b.cons (ringN r k) b.cons.length h = sumR k (fun j => if (cAt b r j).to = (h : Int) then r.amount else 0) - sumR k (fun j => if (cAt b r j).frm = (h : Int) then r.amount else 0)
  | 0, _ => by
    have : ringN r 0 = fun _ => 0 := rfl
    rw [this, acc_zero]; rfl
  | k + 1, hk => by
    have e := okAt_lt (hr.2.2.1 k (by omega))
    have : ringN r (k + 1) = fun i => ringN r k i + (if ((r.cons.getD k 0).toNat : Int) = (i : Int) then r.amount else 0) := by
      funext i
      show ringN r k i + _ = _
      rw [e.2]; rfl
    rw [this, acc_add, ring_acc hr h k (by omega), acc_one, if_pos e.1, sumR_succ, sumR_succ]
    show _ + ((if (cAt b r k).to = _ then _ else _) - (if (cAt b r k).frm = _ then _ else _)) = _
    omega
theorem ring_zero {b : BookD} {r : RingD} (hr : isRing b r) (h : Nat) : accN b.cons (ringN r r.cons.length) b.cons.length h = 0 := by
  rw [ring_acc hr h _ (Nat.le_refl _)]
  have h1 := sumR_turn (n := r.cons.length) (by have := hr.1; omega) (fun j => if (cAt b r j).frm = (h : Int) then r.amount else 0)
  have h2 : sumR r.cons.length (fun j => if (cAt b r j).to = (h : Int) then r.amount else 0) = sumR r.cons.length (fun j => if (cAt b r ((j + 1) % r.cons.length)).frm = (h : Int) then r.amount else 0) :=
    sumR_congr fun j hj => by rw [hr.2.2.2.1 j hj]
  rw [h2, h1]
  omega
theorem made_zero {b : BookD} {rs : List RingD} (h : Nat) : ∀ i, i ≤ rs.length → (∀ j, j < i → isRing b (rs.getD j default)) → accN b.cons (madeN rs i) b.cons.length h = 0
  | 0, _, _ => acc_zero h _
  | i + 1, hi, hr => by
    have : madeN rs (i + 1) = fun h => madeN rs i h + ringN (rs.getD i default) (rs.getD i default).cons.length h := rfl
    rw [this, acc_add, made_zero h i (by omega) (fun j hj => hr j (by omega)), ring_zero (hr i (by omega))]
    rfl
theorem made_off {b : BookD} {rs : List RingD} (hr : ∀ j, j < rs.length → isRing b (rs.getD j default)) : offB b (madeL b rs) = listedB b (madeL b rs) := by
  unfold offB
  have : (netL b fun i => (madeL b rs).getD i 0).all (fun n => decide (n = 0)) = true := by
    rw [List.all_eq_true]
    intro x hx
    obtain ⟨h, -, rfl⟩ := List.mem_map.1 hx
    refine decide_eq_true ?_
    rw [accN_congr (g := madeN rs rs.length) _ _ (fun i hi => made_at hi)]
    exact made_zero h _ (Nat.le_refl _) hr
  rw [this, Bool.and_true]
attribute [local irreducible] AWP AWL AOp PV LV AWT AWE
section
variable {r : RingD} {rs : List RingD} {cp c1 c2 : Bool} {g2 g9 ga n k j i : Nat} {F G : Nat → Int} {x : Ent} {u1 u2 u3 u4 u5 u6 u7 u8 : AV}
theorem pr48_10 (hj : j < n) (hn : n ≤ 1000) (ha : 1 ≤ r.amount ∧ r.amount ≤ 100) (b1 : 0 ≤ F j ∧ F j ≤ 1000000000) (hG : ∀ q, q < n → G q = if q = j then F j + r.amount else F q) {ops : Array Oper} (h : regF Try.f48 10 = some ops) :
    AWP Try.prog Try.f48.ntmps none (.region 10 ops true) (cutQ (fun s h => s = [(2, u2), (3, u3), (7, .v (.slice (some ⟨ga, 0, none⟩) n n)), (9, .v (ptrV g9)), (26, u4), (27, u5), (28, u6), (33, u7), (34, u8), (35, u1)] ∧ h = [ringE g9 82 c1 r, x, .rw (.slice (some ⟨ga, 0, none⟩) n n) 3 1 (fRows G n)]))
      [(2, u2), (3, u3), (7, .v (.slice (some ⟨ga, 0, none⟩) n n)), (9, .v (ptrV g9)), (11, intA j), (26, u4), (27, u5), (28, u6), (33, u7), (34, u8), (35, u1)] [ringE g9 82 c1 r, x, .rw (.slice (some ⟨ga, 0, none⟩) n n) 3 1 (fRows F n)] := by
  cases h
  have r1 : ((fRows F n).getD j [])[0]? = some (intA (F j)) := fRows_at hj
  have r2 := fRows_len F n
  refine awp_tree T0 [(0, 0), (1, 0), (2, 0), (3, 1), (4, 0), (5, 1), (6, 0), (7, 0), (8, 3)] (.op 0 0 (.op 1 0 (.op 2 0 (.op 3 1 (.op 4 0 (.op 5 1 (.op 6 0 (.op 7 0 (.op 8 3 .stop))))))))) [.cl g9 _ _, .rw _ _ _ _] rfl (by kernel_rfl) (by solve | repeat' constructor) ?_
  refine awt_po rfl (wt_none rfl) (pv_move rfl rfl) rfl rfl ?_
  refine awt_po rfl (wt_none rfl) (pv_move rfl rfl) rfl rfl ?_
  refine awt_po rfl (wt_none rfl) (pv_ix_own T0 rfl rfl rfl rfl (by omega) (by first | exact Int.toNat_natCast _ | rfl)) rfl rfl ?_
  refine awt_lo rfl (wt_none rfl) (lv_rp T0 rfl rfl rfl (by solve | repeat' constructor) (by first | omega | (simp; omega)) (by omega) (by first | assumption | rfl)) rfl rfl rfl ?_
  refine awt_po rfl (wt_none rfl) (pv_fa T0 rfl rfl rfl (by simp; rfl)) rfl rfl ?_
  refine awt_lo rfl (wt_none rfl) (lv_cl1 T0 rfl rfl rfl (by solve | repeat' constructor) (by first | rfl | assumption)) rfl rfl rfl ?_
  refine awt_po rfl (wt_none rfl) (pv_add rfl rfl rfl (by first | assumption | exact wr64 (by omega))) rfl rfl ?_
  refine awt_po rfl (wt_none rfl) (pv_ix_own T0 rfl rfl rfl rfl (by omega) (by first | exact Int.toNat_natCast _ | rfl)) rfl rfl ?_
  refine awt_s (md := fun _ => True) rfl (wt_none rfl) (aop_store_rp T0 rfl rfl rfl rfl rfl rfl rfl rfl (by solve | repeat' constructor) (by first | omega | (simp; omega)) (by omega) rfl trivial ?_)
  refine awe_end ?_
  simp only [cellsA]
  rw [fRows_set hj hG]
  exact cut_n ⟨rfl, rfl⟩ (by first | ((repeat' (first | exact True.intro | refine ⟨rfl, ?_⟩)); all_goals fail) | fail) (by solve | repeat' constructor)
theorem md_10 (hi : i < rs.length) (hrl : rs.length ≤ 1000) (hk : k < (rs.getD i default).cons.length) (hkl : (rs.getD i default).cons.length ≤ 1000) (hx0 : 0 ≤ (rs.getD i default).cons.getD k 0) (hxj : ((rs.getD i default).cons.getD k 0).toNat = j) (hj : j < n) (hn : n ≤ 1000) (ha : 1 ≤ (rs.getD i default).amount ∧ (rs.getD i default).amount ≤ 100) (b1 : 0 ≤ F j ∧ F j ≤ 1000000000) (hG : ∀ q, q < n → G q = if q = j then F j + (rs.getD i default).amount else F q) {ops : Array Oper} (h : regF Try.f36 10 = some ops) :
    AWP Try.prog Try.f36.ntmps none (.region 10 ops true) (cutQ (fun s h => s = [(1, .t (ringsT cp c1 rs)), (2, u2), (6, .v (.slice (some ⟨ga, 0, none⟩) n n)), (7, intA i), (8, intA k)] ∧ h = [x, .rw (.slice (some ⟨ga, 0, none⟩) n n) 3 1 (fRows G n)]))
      [(1, .t (ringsT cp c1 rs)), (2, u2), (6, .v (.slice (some ⟨ga, 0, none⟩) n n)), (7, intA i), (8, intA k)] [x, .rw (.slice (some ⟨ga, 0, none⟩) n n) 3 1 (fRows F n)] := by
  cases h
  have r1 : ((fRows F n).getD j [])[0]? = some (intA (F j)) := fRows_at hj
  have r2 := fRows_len F n
  refine awp_tree T0 [(0, 0), (1, 0), (2, 0), (3, 0), (4, 0), (5, 1), (6, 0), (7, 0), (8, 1), (9, 0), (10, 1), (11, 0), (12, 0), (13, 0), (14, 0), (15, 1), (16, 0), (17, 0), (18, 3)] (.op 0 0 (.op 1 0 (.op 2 0 (.op 3 0 (.op 4 0 (.op 5 1 (.op 6 0 (.op 7 0 (.op 8 1 (.op 9 0 (.op 10 1 (.op 11 0 (.op 12 0 (.op 13 0 (.op 14 0 (.op 15 1 (.op 16 0 (.op 17 0 (.op 18 3 .stop))))))))))))))))))) [.rw _ _ _ _] rfl (by kernel_rfl) (by solve | repeat' constructor) ?_
  refine awt_po rfl (wt_none rfl) (pv_move rfl rfl) rfl rfl ?_
  refine awt_po rfl (wt_none rfl) (pv_move rfl rfl) rfl rfl ?_
  refine awt_po rfl (wt_none rfl) (pv_move rfl rfl) rfl rfl ?_
  refine awt_po rfl (wt_none rfl) (pv_ix_t T0 rfl rfl rfl rfl (by omega) (by first | exact Int.toNat_natCast _ | rfl)) rfl rfl ?_
  refine awt_po rfl (wt_none rfl) (pv_fa_elt T0 rfl rfl rfl (by simp; rfl)) rfl rfl ?_
  refine awt_lo rfl (wt_none rfl) (lv_elt_sl T0 rfl rfl rfl rfl) rfl rfl rfl ?_
  refine awt_po rfl (wt_none rfl) (pv_move rfl rfl) rfl rfl ?_
  refine awt_po rfl (wt_none rfl) (pv_ix_t T0 rfl rfl rfl rfl (by omega) (by first | exact Int.toNat_natCast _ | rfl)) rfl rfl ?_
  refine awt_lo rfl (wt_none rfl) (lv_elt_sc T0 rfl rfl rfl rfl) rfl rfl rfl ?_
  refine awt_po rfl (wt_none rfl) (pv_ix_own T0 rfl rfl rfl rfl (by omega) hxj) rfl rfl ?_
  refine awt_lo rfl (wt_none rfl) (lv_rp T0 rfl rfl rfl (by solve | repeat' constructor) (by first | omega | (simp; omega)) (by omega) (by first | assumption | rfl)) rfl rfl rfl ?_
  refine awt_po rfl (wt_none rfl) (pv_move rfl rfl) rfl rfl ?_
  refine awt_po rfl (wt_none rfl) (pv_move rfl rfl) rfl rfl ?_
  refine awt_po rfl (wt_none rfl) (pv_ix_t T0 rfl rfl rfl rfl (by omega) (by first | exact Int.toNat_natCast _ | rfl)) rfl rfl ?_
  refine awt_po rfl (wt_none rfl) (pv_fa_elt T0 rfl rfl rfl (by simp; rfl)) rfl rfl ?_
  refine awt_lo rfl (wt_none rfl) (lv_elt_sc T0 rfl rfl rfl rfl) rfl rfl rfl ?_
  refine awt_po rfl (wt_none rfl) (pv_add rfl rfl rfl (by first | assumption | exact wr64 (by omega))) rfl rfl ?_
  refine awt_po rfl (wt_none rfl) (pv_ix_own T0 rfl rfl rfl rfl (by omega) hxj) rfl rfl ?_
  refine awt_s (md := fun _ => True) rfl (wt_none rfl) (aop_store_rp T0 rfl rfl rfl rfl rfl rfl rfl rfl (by solve | repeat' constructor) (by first | omega | (simp; omega)) (by omega) rfl trivial ?_)
  refine awe_end ?_
  simp only [cellsA]
  rw [fRows_set hj hG]
  exact cut_n ⟨rfl, rfl⟩ (by first | ((repeat' (first | exact True.intro | refine ⟨rfl, ?_⟩)); all_goals fail) | fail) (by solve | repeat' constructor)
end
end Go.Proofs.Ytilhflfbbfeakaa
