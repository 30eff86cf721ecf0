/- How many truths: few, and the reference's Many and Nth; plain: every truth is one of them. (lv_elt_agd serves the loads of ranges) -/
import Derived.Test.YteaoclpikdmkiaaZeOj
import Derived.Test.YteaoclpikdmkiaaTlw
import Derived.Test.YteaoclpikdmkiaaTy
import Derived.Test.YteaoclpikdmkiaaTz
import Derived.Test.YteaoclpikdmkiaaTv
namespace Go.Proofs.Yteaoclpikdmkiaa
open Go Go.RowKit Go.Tl
set_option linter.unusedVariables false
set_option linter.unusedSimpArgs false
set_option maxRecDepth 100000
set_option maxHeartbeats 4000000
/-- how many minutes an order may come at -/
def widN (p : PostD) (k : Nat) : Int := (p.ords.getD k default).hi - (p.ords.getD k default).lo + 1
def manyN (p : PostD) : Nat → Int
  | 0 => 1
  | k + 1 => manyN p k * widN p k
theorem widN_bd {p : PostD} (hv : VPost p) {k : Nat} (h : k < p.ords.length) : 1 ≤ widN p k ∧ widN p k ≤ 31 := by
  have := hv.min k h
  unfold widN
  omega
theorem many_le {p : PostD} (hv : VPost p) : ∀ k, k ≤ p.ords.length → 1 ≤ manyN p k ∧ manyN p k ≤ 31 ^ k
  | 0, _ => by simp [manyN]
  | k + 1, h => by
    have ih := many_le hv k (by omega)
    have hw := widN_bd hv h
    simp only [manyN]
    constructor
    · have := Int.mul_le_mul ih.1 hw.1 (by decide) (by omega)
      omega
    · have := Int.mul_le_mul ih.2 hw.2 (by omega) (by have := ih.1; have := ih.2; omega)
      rwa [Int.pow_succ]
theorem manyN_bd {p : PostD} (hv : VPost p) {k : Nat} (h : k ≤ p.ords.length) : 1 ≤ manyN p k ∧ manyN p k ≤ 1000000000 := by
  have h1 := many_le hv k h
  have hlen := hv.len
  refine ⟨h1.1, Int.le_trans h1.2 ?_⟩
  have : k ≤ 6 := by omega
  rcases (show k = 0 ∨ k = 1 ∨ k = 2 ∨ k = 3 ∨ k = 4 ∨ k = 5 ∨ k = 6 by omega) with e | e | e | e | e | e | e <;> subst e <;> decide
/-- what is left of a truth's number after the first orders -/
def nthQ (p : PostD) (n : Int) : Nat → Int
  | 0 => n
  | k + 1 => (nthQ p n k).tdiv (widN p k)
def nthD (p : PostD) (n : Int) (k : Nat) : Int := (p.ords.getD k default).lo + (nthQ p n k).tmod (widN p k)
def nthL (p : PostD) (n : Int) (m : Nat) : List Int := (List.range m).map (nthD p n)
theorem nth_len (p : PostD) (n : Int) (m : Nat) : (nthL p n m).length = m := by simp [nthL]
theorem nth_step (p : PostD) (n : Int) (m : Nat) : nthL p n (m + 1) = nthL p n m ++ [nthD p n m] := by simp [nthL, List.range_succ]
theorem nth_at {p : PostD} {n : Int} {m i : Nat} (h : i < m) : (nthL p n m).getD i 0 = nthD p n i := by simp [nthL, List.getD_eq_getElem?_getD, h]
theorem nthQ_bd {p : PostD} (hv : VPost p) {n : Int} (hn : 0 ≤ n) : ∀ k, k ≤ p.ords.length → 0 ≤ nthQ p n k ∧ nthQ p n k ≤ n
  | 0, _ => ⟨hn, Int.le_refl _⟩
  | k + 1, h => by
    have ih := nthQ_bd hv hn k (by omega)
    have hw := widN_bd hv h
    simp only [nthQ]
    refine ⟨Int.tdiv_nonneg ih.1 (by omega), Int.le_trans (Int.tdiv_le_self _ ih.1) ih.2⟩
theorem nth_truth {p : PostD} (hv : VPost p) {n : Int} (hn : 0 ≤ n) : truthB p (nthL p n p.ords.length) = true := truth_iff.2 ⟨nth_len _ _ _, fun k hk => by
  rw [nth_len] at hk
  rw [nth_at hk]
  have hq := nthQ_bd hv hn k (by omega)
  have hw := widN_bd hv hk
  have h3 : 0 ≤ (nthQ p n k).tmod (widN p k) := Int.tmod_nonneg _ hq.1
  have h4 : (nthQ p n k).tmod (widN p k) < widN p k := Int.tmod_lt_of_pos _ (by omega)
  unfold nthD
  unfold widN at *
  exact inB_iff.2 (by show (p.ords.getD k default).lo ≤ _ ∧ _ ≤ (p.ords.getD k default).hi; omega)⟩
/-- the number of a truth, from an order on -/
def encN (p : PostD) (t : List Int) : Nat → Nat → Int
  | 0, _ => 0
  | c + 1, k => (t.getD k 0 - (p.ords.getD k default).lo) + widN p k * encN p t c (k + 1)
theorem truth_in {p : PostD} {t : List Int} (ht : truthB p t = true) {k : Nat} (h : k < p.ords.length) : (p.ords.getD k default).lo ≤ t.getD k 0 ∧ t.getD k 0 ≤ (p.ords.getD k default).hi := by
  obtain ⟨h1, h2⟩ := truth_iff.1 ht
  exact inB_iff.1 (h2 k (by omega))
theorem enc_bd {p : PostD} (hv : VPost p) {t : List Int} (ht : truthB p t = true) : ∀ c k, k + c = p.ords.length → 0 ≤ encN p t c k ∧ manyN p k * (encN p t c k + 1) ≤ manyN p p.ords.length
  | 0, k, h => by
    obtain rfl : k = p.ords.length := by omega
    simp [encN]
  | c + 1, k, h => by
    have ih := enc_bd hv ht c (k + 1) (by omega)
    have hw := widN_bd hv (show k < p.ords.length by omega)
    have hm := manyN_bd hv (show k ≤ p.ords.length by omega)
    have ht := truth_in ht (show k < p.ords.length by omega)
    have hd : t.getD k 0 - (p.ords.getD k default).lo + 1 ≤ widN p k := by unfold widN; omega
    simp only [encN]
    have h0 : 0 ≤ widN p k * encN p t c (k + 1) := Int.mul_nonneg (by omega) ih.1
    refine ⟨by omega, Int.le_trans ?_ ih.2⟩
    have e : manyN p (k + 1) * (encN p t c (k + 1) + 1) = manyN p k * (widN p k * encN p t c (k + 1) + widN p k) := by
      show manyN p k * widN p k * (encN p t c (k + 1) + 1) = _
      rw [Int.mul_assoc, Int.mul_add, Int.mul_one]
    rw [e]
    exact Int.mul_le_mul_of_nonneg_left (by omega) (by omega)
theorem nthQ_enc {p : PostD} (hv : VPost p) {t : List Int} (ht : truthB p t = true) : ∀ k, k ≤ p.ords.length → nthQ p (encN p t p.ords.length 0) k = encN p t (p.ords.length - k) k
  | 0, _ => rfl
  | k + 1, h => by
    have ih := nthQ_enc hv ht k (by omega)
    have hw := widN_bd hv h
    have ht1 := truth_in ht h
    have hb := enc_bd hv ht (p.ords.length - (k + 1)) (k + 1) (by omega)
    simp only [nthQ]
    rw [ih, show p.ords.length - k = (p.ords.length - (k + 1)) + 1 by omega]
    simp only [encN]
    have hd : 0 ≤ t.getD k 0 - (p.ords.getD k default).lo ∧ t.getD k 0 - (p.ords.getD k default).lo < widN p k := by unfold widN; omega
    generalize t.getD k 0 - (p.ords.getD k default).lo = d at *
    have h0 : 0 ≤ widN p k * encN p t (p.ords.length - (k + 1)) (k + 1) := Int.mul_nonneg (by omega) hb.1
    rw [Int.tdiv_eq_ediv_of_nonneg (by omega), Int.add_mul_ediv_left _ _ (by omega), Int.ediv_eq_zero_of_lt hd.1 hd.2, Int.zero_add]
theorem nth_all {p : PostD} (hv : VPost p) {t : List Int} (ht : truthB p t = true) : ∃ n : Nat, (n : Int) < manyN p p.ords.length ∧ nthL p n p.ords.length = t := by
  have hb := enc_bd hv ht p.ords.length 0 (by omega)
  refine ⟨(encN p t p.ords.length 0).toNat, ?_, ?_⟩
  · have := hb.2
    simp only [show manyN p 0 = 1 from rfl] at this
    omega
  rw [Int.toNat_of_nonneg hb.1]
  obtain ⟨h1, _⟩ := truth_iff.1 ht
  refine list_eq_of (d := (0 : Int)) (by rw [nth_len]; omega) fun k hk => ?_
  rw [nth_len] at hk
  rw [nth_at hk]
  have hw := widN_bd hv hk
  have ht1 := truth_in ht hk
  have hb := enc_bd hv ht (p.ords.length - (k + 1)) (k + 1) (by omega)
  unfold nthD
  rw [nthQ_enc hv ht k (by omega), show p.ords.length - k = (p.ords.length - (k + 1)) + 1 by omega]
  simp only [encN]
  have hd : 0 ≤ t.getD k 0 - (p.ords.getD k default).lo ∧ t.getD k 0 - (p.ords.getD k default).lo < widN p k := by unfold widN; omega
  have h0 : 0 ≤ widN p k * encN p t (p.ords.length - (k + 1)) (k + 1) := Int.mul_nonneg (by omega) hb.1
  rw [Int.tmod_eq_emod_of_nonneg (by omega), Int.add_mul_emod_self_left, Int.emod_eq_of_lt hd.1 hd.2]
  omega
attribute [local irreducible] AWP AWL AOp PV LV AWT AWE
section
variable {g2 g7 i k : Nat} {cp : Bool} {p : PostD} {a : Option Addr} {cc : Nat} {rows : List (List AV)} {lo hi m n : Int} {u1 : AV}
theorem ov_f9 (hk : k < p.ords.length) (hlen : p.ords.length ≤ 1000) (hm : 1 ≤ m ∧ m ≤ 1000000000) (hw : 1 ≤ widN p k ∧ widN p k ≤ 31) (hb : 0 ≤ (p.ords.getD k default).lo ∧ (p.ords.getD k default).hi ≤ 30) {ops : Array Oper} (h : regF Try.f28 9 = some ops) :
    AWP Try.prog Try.f28.ntmps none (.region 9 ops true) (cutQ (fun s h => s = [(1, u1), (2, .v (ptrV g2)), (5, intA (m * widN p k)), (6, intA k)] ∧ h = [.cl g2 24 [.t (ordsT cp p.ords)]]))
      [(1, u1), (2, .v (ptrV g2)), (5, intA m), (6, intA k)] [.cl g2 24 [.t (ordsT cp p.ords)]] := by
  cases h
  have h1 := Int.mul_le_mul hm.2 hw.2 (by omega) (by omega)
  have h2 := Int.mul_nonneg (a := m) (b := widN p k) (by omega) (by omega)
  unfold widN at *
  refine awp_tree T0 [(0, 0), (1, 0), (2, 1), (3, 0), (4, 0), (5, 0), (6, 0), (7, 1), (8, 0), (9, 1), (10, 0), (11, 0), (12, 0), (13, 0), (14, 1), (15, 0), (16, 0), (17, 0), (18, 0)] (.op 0 0 (.op 1 0 (.op 2 1 (.op 3 0 (.op 4 0 (.op 5 0 (.op 6 0 (.op 7 1 (.op 8 0 (.op 9 1 (.op 10 0 (.op 11 0 (.op 12 0 (.op 13 0 (.op 14 1 (.op 15 0 (.op 16 0 (.op 17 0 (.op 18 0 .stop))))))))))))))))))) [.cl g2 _ _] rfl (by kernel_rfl) (by solve | repeat' constructor) ?_
  refine awt_po rfl (wt_none rfl) (pv_move rfl rfl) rfl rfl ?_
  refine awt_po rfl (wt_none rfl) (pv_fa T0 rfl rfl rfl (by simp; rfl)) rfl rfl ?_
  refine awt_lo rfl (wt_none rfl) (lv_cl1 T0 rfl rfl rfl (by solve | repeat' constructor) (by first | rfl | assumption)) rfl rfl rfl ?_
  refine awt_po rfl (wt_none rfl) (pv_move rfl rfl) rfl rfl ?_
  refine awt_po rfl (wt_none rfl) (pv_ix_t T0 rfl rfl rfl rfl (by omega) (by first | exact (rfl : Int.toNat 0 = 0) | exact Int.toNat_natCast _ | rfl)) rfl rfl ?_
  refine awt_po rfl (wt_none rfl) (pv_fa_elt T0 rfl rfl rfl (by simp; rfl)) rfl rfl ?_
  refine awt_po rfl (wt_none rfl) (pv_fa_elt T0 rfl rfl rfl (by simp; rfl)) rfl rfl ?_
  refine awt_lo rfl (wt_none rfl) (lv_elt_sc T0 rfl rfl rfl rfl) rfl rfl rfl ?_
  refine awt_po rfl (wt_none rfl) (pv_fa T0 rfl rfl rfl (by simp; rfl)) rfl rfl ?_
  refine awt_lo rfl (wt_none rfl) (lv_cl1 T0 rfl rfl rfl (by solve | repeat' constructor) (by first | rfl | assumption)) rfl rfl rfl ?_
  refine awt_po rfl (wt_none rfl) (pv_move rfl rfl) rfl rfl ?_
  refine awt_po rfl (wt_none rfl) (pv_ix_t T0 rfl rfl rfl rfl (by omega) (by first | exact (rfl : Int.toNat 0 = 0) | exact Int.toNat_natCast _ | rfl)) rfl rfl ?_
  refine awt_po rfl (wt_none rfl) (pv_fa_elt T0 rfl rfl rfl (by simp; rfl)) rfl rfl ?_
  refine awt_po rfl (wt_none rfl) (pv_fa_elt T0 rfl rfl rfl (by simp; rfl)) rfl rfl ?_
  refine awt_lo rfl (wt_none rfl) (lv_elt_sc T0 rfl rfl rfl rfl) rfl rfl rfl ?_
  refine awt_po rfl (wt_none rfl) (pv_sub rfl rfl rfl (by first | assumption | exact wr64 (by omega))) rfl rfl ?_
  refine awt_po rfl (wt_none rfl) (pv_add rfl rfl rfl (by first | assumption | exact wr64 (by omega))) rfl rfl ?_
  refine awt_po rfl (wt_none rfl) (pv_mul rfl rfl rfl (by first | assumption | exact wr64 (by omega))) rfl rfl ?_
  refine awt_po rfl (wt_none rfl) (pv_assign rfl rfl) rfl rfl ?_
  refine awt_end ?_
  exact cut_n ⟨rfl, rfl⟩ (by first | ((repeat' (first | exact True.intro | refine ⟨rfl, ?_⟩)); all_goals fail) | fail) (by solve | repeat' constructor)
theorem ov_m5 (hk : k < p.ords.length) (hlen : p.ords.length ≤ 1000) (hm : 1 ≤ m ∧ m ≤ 1000000000) (hw : 1 ≤ widN p k ∧ widN p k ≤ 31) (hb : 0 ≤ (p.ords.getD k default).lo ∧ (p.ords.getD k default).hi ≤ 30) {ops : Array Oper} (h : regF Try.f66 5 = some ops) :
    AWP Try.prog Try.f66.ntmps none (.region 5 ops true) (cutQ (fun s h => s = [(1, .v (ptrV g2)), (3, intA (m * widN p k)), (4, intA k)] ∧ h = [.cl g2 24 [.t (ordsT cp p.ords)]]))
      [(1, .v (ptrV g2)), (3, intA m), (4, intA k)] [.cl g2 24 [.t (ordsT cp p.ords)]] := by
  cases h
  have h1 := Int.mul_le_mul hm.2 hw.2 (by omega) (by omega)
  have h2 := Int.mul_nonneg (a := m) (b := widN p k) (by omega) (by omega)
  unfold widN at *
  refine awp_tree T0 [(0, 0), (1, 0), (2, 1), (3, 0), (4, 0), (5, 0), (6, 0), (7, 1), (8, 0), (9, 1), (10, 0), (11, 0), (12, 0), (13, 0), (14, 1), (15, 0), (16, 0), (17, 0), (18, 0)] (.op 0 0 (.op 1 0 (.op 2 1 (.op 3 0 (.op 4 0 (.op 5 0 (.op 6 0 (.op 7 1 (.op 8 0 (.op 9 1 (.op 10 0 (.op 11 0 (.op 12 0 (.op 13 0 (.op 14 1 (.op 15 0 (.op 16 0 (.op 17 0 (.op 18 0 .stop))))))))))))))))))) [.cl g2 _ _] rfl (by kernel_rfl) (by solve | repeat' constructor) ?_
  refine awt_po rfl (wt_none rfl) (pv_move rfl rfl) rfl rfl ?_
  refine awt_po rfl (wt_none rfl) (pv_fa T0 rfl rfl rfl (by simp; rfl)) rfl rfl ?_
  refine awt_lo rfl (wt_none rfl) (lv_cl1 T0 rfl rfl rfl (by solve | repeat' constructor) (by first | rfl | assumption)) rfl rfl rfl ?_
  refine awt_po rfl (wt_none rfl) (pv_move rfl rfl) rfl rfl ?_
  refine awt_po rfl (wt_none rfl) (pv_ix_t T0 rfl rfl rfl rfl (by omega) (by first | exact (rfl : Int.toNat 0 = 0) | exact Int.toNat_natCast _ | rfl)) rfl rfl ?_
  refine awt_po rfl (wt_none rfl) (pv_fa_elt T0 rfl rfl rfl (by simp; rfl)) rfl rfl ?_
  refine awt_po rfl (wt_none rfl) (pv_fa_elt T0 rfl rfl rfl (by simp; rfl)) rfl rfl ?_
  refine awt_lo rfl (wt_none rfl) (lv_elt_sc T0 rfl rfl rfl rfl) rfl rfl rfl ?_
  refine awt_po rfl (wt_none rfl) (pv_fa T0 rfl rfl rfl (by simp; rfl)) rfl rfl ?_
  refine awt_lo rfl (wt_none rfl) (lv_cl1 T0 rfl rfl rfl (by solve | repeat' constructor) (by first | rfl | assumption)) rfl rfl rfl ?_
  refine awt_po rfl (wt_none rfl) (pv_move rfl rfl) rfl rfl ?_
  refine awt_po rfl (wt_none rfl) (pv_ix_t T0 rfl rfl rfl rfl (by omega) (by first | exact (rfl : Int.toNat 0 = 0) | exact Int.toNat_natCast _ | rfl)) rfl rfl ?_
  refine awt_po rfl (wt_none rfl) (pv_fa_elt T0 rfl rfl rfl (by simp; rfl)) rfl rfl ?_
  refine awt_po rfl (wt_none rfl) (pv_fa_elt T0 rfl rfl rfl (by simp; rfl)) rfl rfl ?_
  refine awt_lo rfl (wt_none rfl) (lv_elt_sc T0 rfl rfl rfl rfl) rfl rfl rfl ?_
  refine awt_po rfl (wt_none rfl) (pv_sub rfl rfl rfl (by first | assumption | exact wr64 (by omega))) rfl rfl ?_
  refine awt_po rfl (wt_none rfl) (pv_add rfl rfl rfl (by first | assumption | exact wr64 (by omega))) rfl rfl ?_
  refine awt_po rfl (wt_none rfl) (pv_mul rfl rfl rfl (by first | assumption | exact wr64 (by omega))) rfl rfl ?_
  refine awt_po rfl (wt_none rfl) (pv_assign rfl rfl) rfl rfl ?_
  refine awt_end ?_
  exact cut_n ⟨rfl, rfl⟩ (by first | ((repeat' (first | exact True.intro | refine ⟨rfl, ?_⟩)); all_goals fail) | fail) (by solve | repeat' constructor)
theorem ov_n6 (hi' : i ≤ 1000) (hn0 : 0 ≤ n ∧ n ≤ 1000000000) (hb : 0 ≤ lo ∧ lo ≤ hi ∧ hi ≤ 30) (hn : rows.length = k) (hk : k ≤ 1000) {ops : Array Oper} (h : regF Try.f67 6 = some ops) :
    AWP Try.prog Try.f67.ntmps none (.region 6 ops true) (cutQ (fun s h => ∃ a c', s = [(1, intA (n.tdiv (hi - lo + 1))), (2, .v (ptrV g2)), (5, .v (.slice a (k + 1) c')), (6, intA i)] ∧ h = [.cl g2 24 [.t (ordsT cp p.ords)], .rw (.slice a (k + 1) c') 3 1 (rows ++ [[intA (lo + n.tmod (hi - lo + 1))]])]))
      [(1, intA n), (2, .v (ptrV g2)), (5, .v (.slice a k cc)), (6, intA i), (7, .v (ptrV g7))] [.cl g7 56 [intA lo, intA hi], .cl g2 24 [.t (ordsT cp p.ords)], .rw (.slice a k cc) 3 1 rows] := by
  cases h
  have h3 : 0 ≤ n.tmod (hi - lo + 1) := Int.tmod_nonneg _ hn0.1
  have h4 : n.tmod (hi - lo + 1) < hi - lo + 1 := Int.tmod_lt_of_pos _ (by omega)
  have h5 : 0 ≤ n.tdiv (hi - lo + 1) := Int.tdiv_nonneg hn0.1 (by omega)
  have h6 : n.tdiv (hi - lo + 1) ≤ n := Int.tdiv_le_self _ hn0.1
  refine awp_tree T0 [(0, 0), (1, 0), (2, 1), (3, 0), (4, 0), (5, 1), (6, 0), (7, 1), (8, 0), (9, 0), (10, 0), (11, 0), (14, 0), (15, 0), (16, 1), (17, 0), (18, 1), (19, 0), (20, 0), (21, 0), (12, 2), (13, 2), (22, 0), (23, 0)] (.op 0 0 (.op 1 0 (.op 2 1 (.op 3 0 (.op 4 0 (.op 5 1 (.op 6 0 (.op 7 1 (.op 8 0 (.op 9 0 (.op 10 0 (.op 11 0 (.op 14 0 (.op 15 0 (.op 16 1 (.op 17 0 (.op 18 1 (.op 19 0 (.op 20 0 (.op 21 0 (.op 12 2 (.op 13 2 (.op 22 0 (.op 23 0 .stop)))))))))))))))))))))))) [.cl g7 _ _] rfl (by kernel_rfl) (by solve | repeat' constructor) ?_
  refine awt_po rfl (wt_none rfl) (pv_move rfl rfl) rfl rfl ?_
  refine awt_po rfl (wt_none rfl) (pv_fa T0 rfl rfl rfl (by simp; rfl)) rfl rfl ?_
  refine awt_lo rfl (wt_none rfl) (lv_cl1 T0 rfl rfl rfl (by solve | repeat' constructor) (by first | rfl | assumption)) rfl rfl rfl ?_
  refine awt_po rfl (wt_none rfl) (pv_move rfl rfl) rfl rfl ?_
  refine awt_po rfl (wt_none rfl) (pv_fa T0 rfl rfl rfl (by simp; rfl)) rfl rfl ?_
  refine awt_lo rfl (wt_none rfl) (lv_cl1 T0 rfl rfl rfl (by solve | repeat' constructor) (by first | rfl | assumption)) rfl rfl rfl ?_
  refine awt_po rfl (wt_none rfl) (pv_fa T0 rfl rfl rfl (by simp; rfl)) rfl rfl ?_
  refine awt_lo rfl (wt_none rfl) (lv_cl1 T0 rfl rfl rfl (by solve | repeat' constructor) (by first | rfl | assumption)) rfl rfl rfl ?_
  refine awt_po rfl (wt_none rfl) (pv_sub rfl rfl rfl (by first | assumption | exact wr64 (by omega))) rfl rfl ?_
  refine awt_po rfl (wt_none rfl) (pv_add rfl rfl rfl (by first | assumption | exact wr64 (by omega))) rfl rfl ?_
  refine awt_po rfl (wt_none rfl) (pv_rem rfl rfl rfl (by omega) (by first | assumption | rfl)) rfl rfl ?_
  refine awt_po rfl (wt_none rfl) (pv_add rfl rfl rfl (by first | assumption | exact wr64 (by omega))) rfl rfl ?_
  refine awt_po rfl (wt_none rfl) (pv_move rfl rfl) rfl rfl ?_
  refine awt_po rfl (wt_none rfl) (pv_fa T0 rfl rfl rfl (by simp; rfl)) rfl rfl ?_
  refine awt_lo rfl (wt_none rfl) (lv_cl1 T0 rfl rfl rfl (by solve | repeat' constructor) (by first | rfl | assumption)) rfl rfl rfl ?_
  refine awt_po rfl (wt_none rfl) (pv_fa T0 rfl rfl rfl (by simp; rfl)) rfl rfl ?_
  refine awt_lo rfl (wt_none rfl) (lv_cl1 T0 rfl rfl rfl (by solve | repeat' constructor) (by first | rfl | assumption)) rfl rfl rfl ?_
  refine awt_po rfl (wt_none rfl) (pv_sub rfl rfl rfl (by first | assumption | exact wr64 (by omega))) rfl rfl ?_
  refine awt_po rfl (wt_none rfl) (pv_add rfl rfl rfl (by first | assumption | exact wr64 (by omega))) rfl rfl ?_
  refine awt_po rfl (wt_none rfl) (pv_quo rfl rfl rfl (by omega) (by first | assumption | exact wr64 (by omega))) rfl rfl ?_
  refine awt_h (hm := []) rfl (wt_none rfl) (by solve | repeat' constructor) rfl (st_bsl T0 rfl rfl rfl rfl rfl (by solve | repeat' constructor) rfl rfl rfl rfl (by simp only [List.map_cons, List.map_nil, cellsA]; rfl) ?_)
  intro g33
  refine awt_h (hm := _) rfl (wt_none rfl) ?sub rfl (st_app_o T0 rfl rfl rfl rfl rfl rfl rfl rfl rfl (by solve | repeat' constructor) (by solve | repeat' constructor) rfl rfl hn (by omega) ?_)
  case sub => exact (by solve | repeat' constructor)
  intro a34 c34 p34
  refine awt_n2 rfl (wt_none rfl) (pv_assign rfl rfl) rfl rfl ?_
  refine awt_n1 rfl (wt_none rfl) (pv_assign rfl rfl) rfl rfl rfl ?_
  refine awt_end ?_
  exact cut_n ⟨_, _, rfl, rfl⟩ (by first | ((repeat' (first | exact True.intro | refine ⟨rfl, ?_⟩)); all_goals fail) | fail) (by solve | repeat' constructor)
end
theorem few_p (p : PostD) (mx : Int) (hl : p.ords.length ≤ 9223372036854775807) (hmx : 0 ≤ mx ∧ mx ≤ 1000000000) : PCall Try.prog 28 [postA false p, intA mx] (fun r => ∃ b, (b = true → p.ords.length ≤ 9 ∧ (faultN p = 0 → manyN p p.ords.length ≤ mx)) ∧ r = boolA b) := by
  refine acall_of_awp T0 Try.func28 rfl rfl rfl ?_
  repeat (first | refine awp_seq ?_ | refine awp_region_lit rfl ?_)
  refine awl_hw (by first | exact wt_none rfl | exact wt_some' rfl rfl rfl rfl (by first | rfl | assumption | exact dT (by omega) | exact dF (by omega))) (st_box rfl rfl (by first | rfl | assumption) (by first | assumption | (simp only [cellsA]; rfl)) rfl rfl ?_)
  intro g2
  repeat (first | refine awp_seq ?_ | refine awp_region_lit rfl ?_ | ((first | (show AWL _ _ _ (⟨_, .assign _, _, _, _, _⟩ :: _) _ _ _; refine awl_pw ?wtq (pv_assign rfl rfl) rfl rfl ?_) | (show AWL _ _ _ (⟨_, .load _ _, _, _, _, _⟩ :: _) _ _ _; refine awl_lw ?wtq (lv_cla T0 rfl rfl rfl (by solve | repeat' constructor) rfl) rfl rfl rfl ?_)); case wtq => first | exact wt_none rfl | exact wt_some' rfl rfl rfl rfl (by first | rfl | assumption | exact dT (by omega) | exact dF (by omega))) | refine awl_nil ?_)
  by_cases h1 : p.ords.length ≤ 9
  case neg =>
    have hT := thin_q hl (decide_eq_false h1)
    refine awl_hw (by first | exact wt_none rfl | exact wt_some' rfl rfl rfl rfl (by first | rfl | assumption | exact dT (by omega) | exact dF (by omega))) (st_call T0 (hT) rfl rfl rfl rfl (by first | exact callee_lit | exact callee_v | exact callee_fn | assumption) (by solve | repeat' constructor) (by first | rfl | assumption) rfl ?_)
    rintro _ rfl
    repeat (first | refine awp_seq ?_ | refine awp_region_lit rfl ?_ | refine awp_ret ?_ | refine then_n ?_ | refine then_r ?_ | refine awp_cond_t rfl (by first | rfl | assumption | exact dT (by omega)) ?_ | ((first | (show AWL _ _ _ (⟨_, .assign _, _, _, _, _⟩ :: _) _ _ _; refine awl_pw ?wtq (pv_assign rfl rfl) rfl rfl ?_) | (show AWL _ _ _ (⟨_, .unOp .not _ _, _, _, _, _⟩ :: _) _ _ _; refine awl_pw ?wtq (pv_not rfl rfl) rfl rfl ?_)); case wtq => first | exact wt_none rfl | exact wt_some' rfl rfl rfl rfl (by first | rfl | assumption | exact dT (by omega) | exact dF (by omega))) | refine awl_nil ?_)
    exact body_p (.cons rfl .nil) ⟨false, (fun h => by cases h), rfl⟩
  have hT := thin_q hl (decide_eq_true h1)
  refine awl_hw (by first | exact wt_none rfl | exact wt_some' rfl rfl rfl rfl (by first | rfl | assumption | exact dT (by omega) | exact dF (by omega))) (st_call T0 (hT) rfl rfl rfl rfl (by first | exact callee_lit | exact callee_v | exact callee_fn | assumption) (by solve | repeat' constructor) (by first | rfl | assumption) rfl ?_)
  rintro _ rfl
  have hfr := fault_rng p
  repeat (first | refine awp_seq ?_ | refine awp_region_lit rfl ?_ | refine awp_skip ?_ | refine then_n ?_ | refine awp_cond_f rfl (by first | rfl | assumption | exact dF (by omega)) ?_ | ((first | (show AWL _ _ _ (⟨_, .load _ _, _, _, _, _⟩ :: _) _ _ _; refine awl_lw ?wtq (lv_cla T0 rfl rfl rfl (by solve | repeat' constructor) rfl) rfl rfl rfl ?_) | (show AWL _ _ _ (⟨_, .unOp .not _ _, _, _, _, _⟩ :: _) _ _ _; refine awl_pw ?wtq (pv_not rfl rfl) rfl rfl ?_)); case wtq => first | exact wt_none rfl | exact wt_some' rfl rfl rfl rfl (by first | rfl | assumption | exact dT (by omega) | exact dF (by omega))) | refine awl_nil ?_)
  refine awl_hw (by first | exact wt_none rfl | exact wt_some' rfl rfl rfl rfl (by first | rfl | assumption | exact dT (by omega) | exact dF (by omega))) (st_call T0 (fault_p false p (by omega)) rfl rfl rfl rfl (by first | exact callee_lit | exact callee_v | exact callee_fn | assumption) (by solve | repeat' constructor) (by first | rfl | assumption) rfl ?_)
  rintro _ rfl
  by_cases h3 : faultN p = 0
  case neg =>
    have d3 : decide (faultN p ≠ 0) = true := decide_eq_true h3
    repeat (first | refine awp_seq ?_ | refine awp_region_lit rfl ?_ | refine awp_ret ?_ | refine then_n ?_ | refine then_r ?_ | refine awp_cond_t rfl (by first | rfl | assumption | exact dT (by omega)) ?_ | ((first | (show AWL _ _ _ (⟨_, .assign _, _, _, _, _⟩ :: _) _ _ _; refine awl_pw ?wtq (pv_assign rfl rfl) rfl rfl ?_) | (show AWL _ _ _ (⟨_, .binOp .neq _ _ _ _, _, _, _, _⟩ :: _) _ _ _; refine awl_pw ?wtq (pv_neq rfl rfl rfl) rfl rfl ?_)); case wtq => first | exact wt_none rfl | exact wt_some' rfl rfl rfl rfl (by first | rfl | assumption | exact dT (by omega) | exact dF (by omega))) | refine awl_nil ?_)
    exact body_p (.cons rfl .nil) ⟨true, (fun _ => ⟨h1, fun h => absurd h h3⟩), rfl⟩
  have d3 : decide (faultN p ≠ 0) = false := decide_eq_false (fun h => h h3)
  have hv := vpost h3
  have hlen := hv.len
  repeat (first | refine awp_seq ?_ | refine awp_block ?_ | refine awp_region_lit rfl ?_ | refine awp_skip ?_ | refine then_n ?_ | refine awp_cond_f rfl (by first | rfl | assumption | exact dF (by omega)) ?_ | ((first | (show AWL _ _ _ (⟨_, .assign _, _, _, _, _⟩ :: _) _ _ _; refine awl_pw ?wtq (pv_assign rfl rfl) rfl rfl ?_) | (show AWL _ _ _ (⟨_, .binOp .neq _ _ _ _, _, _, _, _⟩ :: _) _ _ _; refine awl_pw ?wtq (pv_neq rfl rfl rfl) rfl rfl ?_)); case wtq => first | exact wt_none rfl | exact wt_some' rfl rfl rfl rfl (by first | rfl | assumption | exact dT (by omega) | exact dF (by omega))) | refine awl_nil ?_)
  refine awp_loop (fun m s h => ∃ (k : Nat), k ≤ p.ords.length ∧ m = p.ords.length - k ∧ s = [(1, intA mx), (2, .v (ptrV g2)), (5, intA (manyN p k)), (6, intA k)] ∧ h = [.cl g2 24 [.t (ordsT false p.ords)]]) ?_ ⟨0, Nat.zero_le _, rfl, rfl, rfl⟩ (by first | ((repeat' (first | exact True.intro | refine ⟨rfl, ?_⟩)); all_goals fail) | fail) (by solve | repeat' constructor)
  rintro m s h ⟨k, hk, rfl, rfl, rfl⟩
  have hmb := manyN_bd hv hk
  by_cases hkt : k < p.ords.length
  case neg =>
    obtain rfl : k = p.ords.length := by omega
    repeat (first | refine awp_seq ?_ | refine awp_region_lit rfl ?_ | refine awp_exit ?_ | refine awp_ret ?_ | refine then_n ?_ | refine awp_cond_f rfl (by first | rfl | assumption | exact dF (by omega)) ?_ | ((first | (show AWL _ _ _ (⟨_, .move _, _, _, _, _⟩ :: _) _ _ _; refine awl_pw ?wtq (pv_move rfl rfl) rfl rfl ?_) | (show AWL _ _ _ (⟨_, .assign _, _, _, _, _⟩ :: _) _ _ _; refine awl_pw ?wtq (pv_assign rfl rfl) rfl rfl ?_) | (show AWL _ _ _ (⟨_, .load _ _, _, _, _, _⟩ :: _) _ _ _; refine awl_lw ?wtq (lv_cl1 T0 rfl rfl rfl (by solve | repeat' constructor) (by first | rfl | assumption)) rfl rfl rfl ?_) | (show AWL _ _ _ (⟨_, .fieldAddr _ _ _, _, _, _, _⟩ :: _) _ _ _; refine awl_pw ?wtq (pv_fa T0 rfl rfl rfl (by simp; rfl)) rfl rfl ?_) | (show AWL _ _ _ (⟨_, .binOp .lss _ _ _ _, _, _, _, _⟩ :: _) _ _ _; refine awl_pw ?wtq (pv_lss rfl rfl rfl) rfl rfl ?_) | (show AWL _ _ _ (⟨_, .binOp .leq _ _ _ _, _, _, _, _⟩ :: _) _ _ _; refine awl_pw ?wtq (pv_leq rfl rfl rfl) rfl rfl ?_) | (show AWL _ _ _ (⟨_, .call ⟨.builtin .len, _, _⟩, _, _, _, _⟩ :: _) _ _ _; refine awl_pw ?wtq (pv_len_t T0 rfl rfl rfl) rfl rfl ?_) | (show AWL _ _ _ (⟨_, .pick _ _ _, _, _, _, _⟩ :: _) _ _ _; refine awl_pw ?wtq (pv_pick_f rfl rfl (by first | rfl | assumption | exact dT (by omega) | exact dF (by omega)) rfl) rfl rfl ?_)); case wtq => first | exact wt_none rfl | exact wt_some' rfl rfl rfl rfl (by first | rfl | assumption | exact dT (by omega) | exact dF (by omega))) | refine awl_sk (wf_some rfl rfl rfl rfl (by first | rfl | assumption | exact dT (by omega) | exact dF (by omega))) rfl rfl ?_ | refine awl_nil ?_)
    exact body_p (.cons rfl .nil) ⟨decide (manyN p p.ords.length ≤ mx), (fun h => ⟨h1, fun _ => of_decide_eq_true h⟩), rfl⟩
  by_cases hle : manyN p k ≤ mx
  case neg =>
    repeat (first | refine awp_seq ?_ | refine awp_region_lit rfl ?_ | refine awp_exit ?_ | refine awp_ret ?_ | refine then_n ?_ | refine awp_cond_f rfl (by first | rfl | assumption | exact dF (by omega)) ?_ | ((first | (show AWL _ _ _ (⟨_, .move _, _, _, _, _⟩ :: _) _ _ _; refine awl_pw ?wtq (pv_move rfl rfl) rfl rfl ?_) | (show AWL _ _ _ (⟨_, .assign _, _, _, _, _⟩ :: _) _ _ _; refine awl_pw ?wtq (pv_assign rfl rfl) rfl rfl ?_) | (show AWL _ _ _ (⟨_, .load _ _, _, _, _, _⟩ :: _) _ _ _; refine awl_lw ?wtq (lv_cl1 T0 rfl rfl rfl (by solve | repeat' constructor) (by first | rfl | assumption)) rfl rfl rfl ?_) | (show AWL _ _ _ (⟨_, .fieldAddr _ _ _, _, _, _, _⟩ :: _) _ _ _; refine awl_pw ?wtq (pv_fa T0 rfl rfl rfl (by simp; rfl)) rfl rfl ?_) | (show AWL _ _ _ (⟨_, .binOp .lss _ _ _ _, _, _, _, _⟩ :: _) _ _ _; refine awl_pw ?wtq (pv_lss rfl rfl rfl) rfl rfl ?_) | (show AWL _ _ _ (⟨_, .binOp .leq _ _ _ _, _, _, _, _⟩ :: _) _ _ _; refine awl_pw ?wtq (pv_leq rfl rfl rfl) rfl rfl ?_) | (show AWL _ _ _ (⟨_, .call ⟨.builtin .len, _, _⟩, _, _, _, _⟩ :: _) _ _ _; refine awl_pw ?wtq (pv_len_t T0 rfl rfl rfl) rfl rfl ?_) | (show AWL _ _ _ (⟨_, .pick _ _ _, _, _, _, _⟩ :: _) _ _ _; refine awl_pw ?wtq (pv_pick_t rfl rfl (by first | rfl | assumption | exact dT (by omega) | exact dF (by omega)) rfl) rfl rfl ?_)); case wtq => first | exact wt_none rfl | exact wt_some' rfl rfl rfl rfl (by first | rfl | assumption | exact dT (by omega) | exact dF (by omega))) | refine awl_nil ?_)
    exact body_p (.cons rfl .nil) ⟨decide (manyN p k ≤ mx), (fun h => absurd (of_decide_eq_true h) hle), rfl⟩
  repeat (first | refine awp_seq ?_ | refine awp_block ?_ | refine awp_region_lit rfl ?_ | refine awp_skip ?_ | refine then_n ?_ | refine awp_cond_t rfl (by first | rfl | assumption | exact dT (by omega)) ?_ | ((first | (show AWL _ _ _ (⟨_, .move _, _, _, _, _⟩ :: _) _ _ _; refine awl_pw ?wtq (pv_move rfl rfl) rfl rfl ?_) | (show AWL _ _ _ (⟨_, .load _ _, _, _, _, _⟩ :: _) _ _ _; refine awl_lw ?wtq (lv_cl1 T0 rfl rfl rfl (by solve | repeat' constructor) (by first | rfl | assumption)) rfl rfl rfl ?_) | (show AWL _ _ _ (⟨_, .fieldAddr _ _ _, _, _, _, _⟩ :: _) _ _ _; refine awl_pw ?wtq (pv_fa T0 rfl rfl rfl (by simp; rfl)) rfl rfl ?_) | (show AWL _ _ _ (⟨_, .binOp .lss _ _ _ _, _, _, _, _⟩ :: _) _ _ _; refine awl_pw ?wtq (pv_lss rfl rfl rfl) rfl rfl ?_) | (show AWL _ _ _ (⟨_, .binOp .leq _ _ _ _, _, _, _, _⟩ :: _) _ _ _; refine awl_pw ?wtq (pv_leq rfl rfl rfl) rfl rfl ?_) | (show AWL _ _ _ (⟨_, .call ⟨.builtin .len, _, _⟩, _, _, _, _⟩ :: _) _ _ _; refine awl_pw ?wtq (pv_len_t T0 rfl rfl rfl) rfl rfl ?_) | (show AWL _ _ _ (⟨_, .pick _ _ _, _, _, _, _⟩ :: _) _ _ _; refine awl_pw ?wtq (pv_pick_t rfl rfl (by first | rfl | assumption | exact dT (by omega) | exact dF (by omega)) rfl) rfl rfl ?_)); case wtq => first | exact wt_none rfl | exact wt_some' rfl rfl rfl rfl (by first | rfl | assumption | exact dT (by omega) | exact dF (by omega))) | refine awl_nil ?_)
  refine awp_cutB _ (awp_weak (by first | ((repeat' (first | exact True.intro | refine ⟨rfl, ?_⟩)); all_goals fail) | fail) (by solve | repeat' constructor) (ov_f9 (g2 := g2) (k := k) (cp := false) (p := p) (m := manyN p k) (u1 := intA mx) hkt (by omega) hmb (widN_bd hv hkt) (by have := hv.min k hkt; omega) rfl)) ?_
  rintro s h ⟨rfl, rfl⟩
  repeat (first | refine awp_region_lit rfl ?_ | ((first | (show AWL _ _ _ (⟨_, .move _, _, _, _, _⟩ :: _) _ _ _; refine awl_pw ?wtq (pv_move rfl rfl) rfl rfl ?_) | (show AWL _ _ _ (⟨_, .assign _, _, _, _, _⟩ :: _) _ _ _; refine awl_pw ?wtq (pv_assign rfl rfl) rfl rfl ?_) | (show AWL _ _ _ (⟨_, .binOp .add _ _ _ _, _, _, _, _⟩ :: _) _ _ _; refine awl_pw ?wtq (pv_add rfl rfl rfl (by first | assumption | exact wr64 (by omega))) rfl rfl ?_)); case wtq => first | exact wt_none rfl | exact wt_some' rfl rfl rfl rfl (by first | rfl | assumption | exact dT (by omega) | exact dF (by omega))) | refine awl_nil ?_)
  refine rnd_n _ _ _ ?_ ⟨k + 1, hkt, rfl, rfl, rfl⟩ (by first | ((repeat' (first | exact True.intro | refine ⟨rfl, ?_⟩)); all_goals fail) | fail) (by solve | repeat' constructor)
  omega
theorem many_p (cp : Bool) (p : PostD) (hv : VPost p) : PCall Try.prog 66 [postA cp p] (fun r => r = intA (manyN p p.ords.length)) := by
  have hlen := hv.len
  refine acall_of_awp T0 Try.func66 rfl rfl rfl ?_
  repeat (first | refine awp_seq ?_ | refine awp_region_lit rfl ?_)
  refine awl_hw (by first | exact wt_none rfl | exact wt_some' rfl rfl rfl rfl (by first | rfl | assumption | exact dT (by omega) | exact dF (by omega))) (st_box rfl rfl (by first | rfl | assumption) (by first | assumption | (simp only [cellsA]; rfl)) rfl rfl ?_)
  intro g1
  repeat (first | refine awp_seq ?_ | refine awp_block ?_ | refine awp_region_lit rfl ?_ | ((first | (show AWL _ _ _ (⟨_, .assign _, _, _, _, _⟩ :: _) _ _ _; refine awl_pw ?wtq (pv_assign rfl rfl) rfl rfl ?_)); case wtq => first | exact wt_none rfl | exact wt_some' rfl rfl rfl rfl (by first | rfl | assumption | exact dT (by omega) | exact dF (by omega))) | refine awl_nil ?_)
  refine awp_loop (fun m s h => ∃ (k : Nat), k ≤ p.ords.length ∧ m = p.ords.length - k ∧ s = [(1, .v (ptrV g1)), (3, intA (manyN p k)), (4, intA k)] ∧ h = [.cl g1 24 [.t (ordsT cp p.ords)]]) ?_ ⟨0, Nat.zero_le _, rfl, rfl, rfl⟩ (by first | ((repeat' (first | exact True.intro | refine ⟨rfl, ?_⟩)); all_goals fail) | fail) (by solve | repeat' constructor)
  rintro m s h ⟨k, hk, rfl, rfl, rfl⟩
  have hmb := manyN_bd hv hk
  by_cases hkt : k < p.ords.length
  case neg =>
    obtain rfl : k = p.ords.length := by omega
    repeat (first | refine awp_seq ?_ | refine awp_region_lit rfl ?_ | refine awp_exit ?_ | refine awp_ret ?_ | refine then_n ?_ | refine awp_cond_f rfl (by first | rfl | assumption | exact dF (by omega)) ?_ | ((first | (show AWL _ _ _ (⟨_, .move _, _, _, _, _⟩ :: _) _ _ _; refine awl_pw ?wtq (pv_move rfl rfl) rfl rfl ?_) | (show AWL _ _ _ (⟨_, .assign _, _, _, _, _⟩ :: _) _ _ _; refine awl_pw ?wtq (pv_assign rfl rfl) rfl rfl ?_) | (show AWL _ _ _ (⟨_, .load _ _, _, _, _, _⟩ :: _) _ _ _; refine awl_lw ?wtq (lv_cl1 T0 rfl rfl rfl (by solve | repeat' constructor) (by first | rfl | assumption)) rfl rfl rfl ?_) | (show AWL _ _ _ (⟨_, .fieldAddr _ _ _, _, _, _, _⟩ :: _) _ _ _; refine awl_pw ?wtq (pv_fa T0 rfl rfl rfl (by simp; rfl)) rfl rfl ?_) | (show AWL _ _ _ (⟨_, .binOp .lss _ _ _ _, _, _, _, _⟩ :: _) _ _ _; refine awl_pw ?wtq (pv_lss rfl rfl rfl) rfl rfl ?_) | (show AWL _ _ _ (⟨_, .call ⟨.builtin .len, _, _⟩, _, _, _, _⟩ :: _) _ _ _; refine awl_pw ?wtq (pv_len_t T0 rfl rfl rfl) rfl rfl ?_)); case wtq => first | exact wt_none rfl | exact wt_some' rfl rfl rfl rfl (by first | rfl | assumption | exact dT (by omega) | exact dF (by omega))) | refine awl_nil ?_)
    exact body_p (.cons rfl .nil) rfl
  repeat (first | refine awp_seq ?_ | refine awp_block ?_ | refine awp_region_lit rfl ?_ | refine awp_skip ?_ | refine then_n ?_ | refine awp_cond_t rfl (by first | rfl | assumption | exact dT (by omega)) ?_ | ((first | (show AWL _ _ _ (⟨_, .move _, _, _, _, _⟩ :: _) _ _ _; refine awl_pw ?wtq (pv_move rfl rfl) rfl rfl ?_) | (show AWL _ _ _ (⟨_, .load _ _, _, _, _, _⟩ :: _) _ _ _; refine awl_lw ?wtq (lv_cl1 T0 rfl rfl rfl (by solve | repeat' constructor) (by first | rfl | assumption)) rfl rfl rfl ?_) | (show AWL _ _ _ (⟨_, .fieldAddr _ _ _, _, _, _, _⟩ :: _) _ _ _; refine awl_pw ?wtq (pv_fa T0 rfl rfl rfl (by simp; rfl)) rfl rfl ?_) | (show AWL _ _ _ (⟨_, .binOp .lss _ _ _ _, _, _, _, _⟩ :: _) _ _ _; refine awl_pw ?wtq (pv_lss rfl rfl rfl) rfl rfl ?_) | (show AWL _ _ _ (⟨_, .call ⟨.builtin .len, _, _⟩, _, _, _, _⟩ :: _) _ _ _; refine awl_pw ?wtq (pv_len_t T0 rfl rfl rfl) rfl rfl ?_)); case wtq => first | exact wt_none rfl | exact wt_some' rfl rfl rfl rfl (by first | rfl | assumption | exact dT (by omega) | exact dF (by omega))) | refine awl_nil ?_)
  refine awp_cutB _ (awp_weak (by first | ((repeat' (first | exact True.intro | refine ⟨rfl, ?_⟩)); all_goals fail) | fail) (by solve | repeat' constructor) (ov_m5 (g2 := g1) (k := k) (cp := cp) (p := p) (m := manyN p k) hkt (by omega) hmb (widN_bd hv hkt) (by have := hv.min k hkt; omega) rfl)) ?_
  rintro s h ⟨rfl, rfl⟩
  repeat (first | refine awp_region_lit rfl ?_ | ((first | (show AWL _ _ _ (⟨_, .move _, _, _, _, _⟩ :: _) _ _ _; refine awl_pw ?wtq (pv_move rfl rfl) rfl rfl ?_) | (show AWL _ _ _ (⟨_, .assign _, _, _, _, _⟩ :: _) _ _ _; refine awl_pw ?wtq (pv_assign rfl rfl) rfl rfl ?_) | (show AWL _ _ _ (⟨_, .binOp .add _ _ _ _, _, _, _, _⟩ :: _) _ _ _; refine awl_pw ?wtq (pv_add rfl rfl rfl (by first | assumption | exact wr64 (by omega))) rfl rfl ?_)); case wtq => first | exact wt_none rfl | exact wt_some' rfl rfl rfl rfl (by first | rfl | assumption | exact dT (by omega) | exact dF (by omega))) | refine awl_nil ?_)
  refine rnd_n _ _ _ ?_ ⟨k + 1, hkt, rfl, rfl, rfl⟩ (by first | ((repeat' (first | exact True.intro | refine ⟨rfl, ?_⟩)); all_goals fail) | fail) (by solve | repeat' constructor)
  omega
theorem nth_p (cp : Bool) (p : PostD) (hv : VPost p) (n : Int) (hn : 0 ≤ n ∧ n ≤ 1000000000) : PCall Try.prog 67 [postA cp p, intA n] (fun r => r = .t (intsT true (nthL p n p.ords.length))) := by
  have hlen := hv.len
  refine acall_of_awp T0 Try.func67 rfl rfl rfl ?_
  repeat (first | refine awp_seq ?_ | refine awp_region_lit rfl ?_)
  refine awl_hw (by first | exact wt_none rfl | exact wt_some' rfl rfl rfl rfl (by first | rfl | assumption | exact dT (by omega) | exact dF (by omega))) (st_box rfl rfl (by first | rfl | assumption) (by first | assumption | (simp only [cellsA]; rfl)) rfl rfl ?_)
  intro g2
  repeat (first | refine awp_seq ?_ | refine awp_block ?_ | refine awp_region_lit rfl ?_ | ((first | (show AWL _ _ _ (⟨_, .assign _, _, _, _, _⟩ :: _) _ _ _; refine awl_pw ?wtq (pv_assign rfl rfl) rfl rfl ?_)); case wtq => first | exact wt_none rfl | exact wt_some' rfl rfl rfl rfl (by first | rfl | assumption | exact dT (by omega) | exact dF (by omega))) | refine awl_nil ?_)
  refine awp_ghost (ghost_nilrow 3 1) ?_
  refine awp_loop (fun m s h => ∃ (k : Nat) (a : Option Addr) (c : Nat), k ≤ p.ords.length ∧ m = p.ords.length - k ∧ s = [(1, intA (nthQ p n k)), (2, .v (ptrV g2)), (5, .v (.slice a k c)), (6, intA k)] ∧ h = [.cl g2 24 [.t (ordsT cp p.ords)], .rw (.slice a k c) 3 1 ((nthL p n k).map intRow)]) ?_ ⟨0, none, 0, Nat.zero_le _, rfl, rfl, rfl⟩ (by first | ((repeat' (first | exact True.intro | refine ⟨rfl, ?_⟩)); all_goals fail) | fail) (by solve | repeat' constructor)
  rintro m s h ⟨k, a, c, hk, rfl, rfl, rfl⟩
  have hrl : ((nthL p n k).map intRow).length = k := by rw [List.length_map, nth_len]
  have hq := nthQ_bd hv hn.1 k hk
  by_cases hkt : k < p.ords.length
  case neg =>
    obtain rfl : k = p.ords.length := by omega
    have hrt := intRows_tree (nthL p n p.ords.length)
    rw [nth_len] at hrt
    repeat (first | refine awp_seq ?_ | refine awp_region_lit rfl ?_ | refine awp_exit ?_ | refine awp_ret ?_ | refine then_n ?_ | refine awp_cond_f rfl (by first | rfl | assumption | exact dF (by omega)) ?_ | ((first | (show AWL _ _ _ (⟨_, .move _, _, _, _, _⟩ :: _) _ _ _; refine awl_pw ?wtq (pv_move rfl rfl) rfl rfl ?_) | (show AWL _ _ _ (⟨_, .assign _, _, _, _, _⟩ :: _) _ _ _; refine awl_pw ?wtq (pv_assign rfl rfl) rfl rfl ?_) | (show AWL _ _ _ (⟨_, .load _ _, _, _, _, _⟩ :: _) _ _ _; refine awl_lw ?wtq (lv_cl1 T0 rfl rfl rfl (by solve | repeat' constructor) (by first | rfl | assumption)) rfl rfl rfl ?_) | (show AWL _ _ _ (⟨_, .fieldAddr _ _ _, _, _, _, _⟩ :: _) _ _ _; refine awl_pw ?wtq (pv_fa T0 rfl rfl rfl (by simp; rfl)) rfl rfl ?_) | (show AWL _ _ _ (⟨_, .binOp .lss _ _ _ _, _, _, _, _⟩ :: _) _ _ _; refine awl_pw ?wtq (pv_lss rfl rfl rfl) rfl rfl ?_) | (show AWL _ _ _ (⟨_, .call ⟨.builtin .len, _, _⟩, _, _, _, _⟩ :: _) _ _ _; refine awl_pw ?wtq (pv_len_t T0 rfl rfl rfl) rfl rfl ?_)); case wtq => first | exact wt_none rfl | exact wt_some' rfl rfl rfl rfl (by first | rfl | assumption | exact dT (by omega) | exact dF (by omega))) | refine awl_nil ?_)
    refine bodyQ_ghost (ghost_freeze (E := 3) (sz := 1) (n := p.ords.length) (rows := (nthL p n p.ords.length).map intRow) (d := 4) (fun q => [.sc (.int .i64 ((nthL p n p.ords.length).getD q 0))]) (by solve | repeat' constructor) rfl hrl hrt) ?_
    refine body_p (.cons rfl .nil) ?_
    unfold intsT
    rw [nth_len]
    rfl
  have hmin := hv.min k hkt
  repeat (first | refine awp_seq ?_ | refine awp_block ?_ | refine awp_region_lit rfl ?_ | refine awp_skip ?_ | refine then_n ?_ | refine awp_cond_t rfl (by first | rfl | assumption | exact dT (by omega)) ?_ | ((first | (show AWL _ _ _ (⟨_, .move _, _, _, _, _⟩ :: _) _ _ _; refine awl_pw ?wtq (pv_move rfl rfl) rfl rfl ?_) | (show AWL _ _ _ (⟨_, .load _ _, _, _, _, _⟩ :: _) _ _ _; refine awl_lw ?wtq (lv_cl1 T0 rfl rfl rfl (by solve | repeat' constructor) (by first | rfl | assumption)) rfl rfl rfl ?_) | (show AWL _ _ _ (⟨_, .load _ _, _, _, _, _⟩ :: _) _ _ _; refine awl_lw ?wtq (lv_elt_agd T0 rfl rfl rfl rfl (by first | ((repeat' (first | exact OfTrs.nil | apply OfTrs.sc | apply OfTrs.sl)); all_goals fail) | fail)) rfl rfl rfl ?_) | (show AWL _ _ _ (⟨_, .fieldAddr _ _ _, _, _, _, _⟩ :: _) _ _ _; refine awl_pw ?wtq (pv_fa T0 rfl rfl rfl (by simp; rfl)) rfl rfl ?_) | (show AWL _ _ _ (⟨_, .fieldAddr _ _ _, _, _, _, _⟩ :: _) _ _ _; refine awl_pw ?wtq (pv_fa_elt T0 rfl rfl rfl (by simp; rfl)) rfl rfl ?_) | (show AWL _ _ _ (⟨_, .indexAddr _ _ _, _, _, _, _⟩ :: _) _ _ _; refine awl_pw ?wtq (pv_ix_t T0 rfl rfl rfl rfl (by omega) (by first | exact (rfl : Int.toNat 0 = 0) | exact Int.toNat_natCast _ | rfl)) rfl rfl ?_) | (show AWL _ _ _ (⟨_, .binOp .lss _ _ _ _, _, _, _, _⟩ :: _) _ _ _; refine awl_pw ?wtq (pv_lss rfl rfl rfl) rfl rfl ?_) | (show AWL _ _ _ (⟨_, .call ⟨.builtin .len, _, _⟩, _, _, _, _⟩ :: _) _ _ _; refine awl_pw ?wtq (pv_len_t T0 rfl rfl rfl) rfl rfl ?_)); case wtq => first | exact wt_none rfl | exact wt_some' rfl rfl rfl rfl (by first | rfl | assumption | exact dT (by omega) | exact dF (by omega))) | refine awl_nil ?_)
  refine awl_hw (by first | exact wt_none rfl | exact wt_some' rfl rfl rfl rfl (by first | rfl | assumption | exact dT (by omega) | exact dF (by omega))) (st_alloc T0 rfl rfl rfl rfl (by simp only [Value.cells, List.toList_toArray, List.map_cons, List.map_nil]; rfl) ?_)
  intro g7
  repeat (first | refine then_n ?_ | (show AWL _ _ _ (⟨_, .store _ _ _, _, _, _, _⟩ :: _) _ _ _; refine awl_hw (by first | exact wt_none rfl | exact wt_some' rfl rfl rfl rfl (by first | rfl | assumption | exact dT (by omega) | exact dF (by omega))) (st_store T0 rfl rfl rfl rfl rfl (by first | assumption | (simp only [cellsA]; rfl)) rfl rfl rfl (by solve | repeat' constructor) (by solve | repeat' constructor) trivial ?_)) | refine awl_nil ?_)
  refine awp_cutB _ (awp_weak (by first | ((repeat' (first | exact True.intro | refine ⟨rfl, ?_⟩)); all_goals fail) | fail) (by solve | repeat' constructor) (ov_n6 (g2 := g2) (g7 := g7) (i := k) (k := k) (cp := cp) (p := p) (a := a) (cc := c) (rows := (nthL p n k).map intRow) (lo := (p.ords.getD k default).lo) (hi := (p.ords.getD k default).hi) (n := nthQ p n k) (by omega) (by omega) hmin hrl (by omega) rfl)) ?_
  rintro s h ⟨a2, c2, rfl, rfl⟩
  rw [show (nthL p n k).map intRow ++ [[intA ((p.ords.getD k default).lo + (nthQ p n k).tmod ((p.ords.getD k default).hi - (p.ords.getD k default).lo + 1))]] = (nthL p n (k + 1)).map intRow from by rw [nth_step, List.map_append]; rfl]
  repeat (first | refine awp_region_lit rfl ?_ | ((first | (show AWL _ _ _ (⟨_, .move _, _, _, _, _⟩ :: _) _ _ _; refine awl_pw ?wtq (pv_move rfl rfl) rfl rfl ?_) | (show AWL _ _ _ (⟨_, .assign _, _, _, _, _⟩ :: _) _ _ _; refine awl_pw ?wtq (pv_assign rfl rfl) rfl rfl ?_) | (show AWL _ _ _ (⟨_, .binOp .add _ _ _ _, _, _, _, _⟩ :: _) _ _ _; refine awl_pw ?wtq (pv_add rfl rfl rfl (by first | assumption | exact wr64 (by omega))) rfl rfl ?_)); case wtq => first | exact wt_none rfl | exact wt_some' rfl rfl rfl rfl (by first | rfl | assumption | exact dT (by omega) | exact dF (by omega))) | refine awl_nil ?_)
  refine rnd_n _ _ _ ?_ ⟨k + 1, a2, c2, hkt, rfl, rfl, rfl⟩ (by first | ((repeat' (first | exact True.intro | refine ⟨rfl, ?_⟩)); all_goals fail) | fail) (by solve | repeat' constructor)
  omega
end Go.Proofs.Yteaoclpikdmkiaa
