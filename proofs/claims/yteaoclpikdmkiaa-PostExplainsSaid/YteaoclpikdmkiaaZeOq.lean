/- What explains records, as the reference has it; the law PostProves: walks. -/
import Derived.Test.YteaoclpikdmkiaaZeOj
import Derived.Test.YteaoclpikdmkiaaBit
import Derived.Test.YteaoclpikdmkiaaTlw
import Derived.Test.YteaoclpikdmkiaaTy
import Derived.Test.YteaoclpikdmkiaaTz
import Derived.Test.YteaoclpikdmkiaaTv
namespace Go.Proofs.Yteaoclpikdmkiaa
open Go Go.RowKit Go.Tl
set_option linter.unusedVariables false
set_option linter.unusedSimpArgs false
set_option maxRecDepth 100000
set_option maxHeartbeats 4000000
/-- how often a sale is recorded, without the records that are skipped -/
def recG (l : List SaleD) (sk : Nat → Bool) (s : SaleD) : Nat → Int
  | 0 => 0
  | k + 1 => if sk k = false ∧ l.getD k default = s then recG l sk s k + 1 else recG l sk s k
theorem recN_eq (l : List SaleD) (out : List Int) (sk : Nat → Bool) (s : SaleD) : ∀ k, (∀ j, j < k → (sk j = true ↔ (j : Int) ∈ out)) → recN l out s k = recG l sk s k
  | 0, _ => rfl
  | k + 1, h => by
    have ih := recN_eq l out sk s k (fun j hj => h j (by omega))
    have hk := h k (Nat.lt_succ_self k)
    simp only [recN, recG]
    rw [ih]
    by_cases c : (k : Int) ∈ out
    · rw [if_neg (fun h' => h'.1 c), if_neg (fun h' => by rw [hk.2 c] at h'; cases h'.1)]
    · have c' : sk k = false := by
        cases e : sk k
        · rfl
        · exact absurd (hk.1 e) c
      by_cases e : l.getD k default = s
      · rw [if_pos ⟨c, e⟩, if_pos ⟨c', e⟩]
      · rw [if_neg (fun h' => e h'.2), if_neg (fun h' => e h'.2)]
theorem recG_mono (l : List SaleD) (sk : Nat → Bool) (s : SaleD) {k : Nat} : ∀ {n : Nat}, k ≤ n → recG l sk s k ≤ recG l sk s n
  | 0, h => by obtain rfl : k = 0 := by omega
               exact Int.le_refl _
  | n + 1, h => by
    by_cases e : k = n + 1
    · subst e; exact Int.le_refl _
    · have := recG_mono l sk s (k := k) (n := n) (by omega)
      simp only [recG]
      split <;> omega
/-- how often a sale is used -/
def useN (l : List SaleD) (Z : Nat → Bool) (s : SaleD) : Nat → Int
  | 0 => 0
  | k + 1 => if Z k = true ∧ l.getD k default = s then useN l Z s k + 1 else useN l Z s k
theorem use_le (l : List SaleD) (Z : Nat → Bool) (s : SaleD) : ∀ k, useN l Z s k ≤ cntN l s k
  | 0 => Int.le_refl _
  | k + 1 => by
    have ih := use_le l Z s k
    simp only [useN, cntN]
    by_cases e : l.getD k default = s
    · rw [if_pos e]; split <;> omega
    · rw [if_neg e, if_neg (fun h => e h.2)]; exact ih
theorem use_all {l : List SaleD} {Z : Nat → Bool} {s : SaleD} : ∀ k, (∀ j, j < k → l.getD j default = s → Z j = true) → useN l Z s k = cntN l s k
  | 0, _ => rfl
  | k + 1, h => by
    have ih := use_all (l := l) (Z := Z) (s := s) k (fun j hj => h j (by omega))
    simp only [useN, cntN]
    rw [ih]
    by_cases e : l.getD k default = s
    · rw [if_pos e, if_pos ⟨h k (Nat.lt_succ_self k) e, e⟩]
    · rw [if_neg e, if_neg (fun h => e h.2)]
theorem use_set {l : List SaleD} {Z : Nat → Bool} {q : Nat} (hq : Z q = false) (s : SaleD) : ∀ k, useN l (fun j => if j = q then true else Z j) s k = useN l Z s k + (if q < k ∧ l.getD q default = s then 1 else 0)
  | 0 => by simp [useN]
  | k + 1 => by
    have ih := use_set (l := l) hq s k
    have h0 : useN l (fun j => if j = q then true else Z j) s (k + 1) = if (if k = q then true else Z k) = true ∧ l.getD k default = s then useN l (fun j => if j = q then true else Z j) s k + 1 else useN l (fun j => if j = q then true else Z j) s k := rfl
    have h1 : useN l Z s (k + 1) = if Z k = true ∧ l.getD k default = s then useN l Z s k + 1 else useN l Z s k := rfl
    rw [ih] at h0
    by_cases e : k = q
    · subst e
      have h2 : (if k = k then true else Z k) = true := if_pos rfl
      have h3 : (if k < k ∧ l.getD k default = s then (1 : Int) else 0) = 0 := if_neg fun h => Nat.lt_irrefl _ h.1
      rw [h1.trans (if_neg fun h => by rw [hq] at h; cases h.1)]
      by_cases e2 : l.getD k default = s
      · rw [h0.trans (if_pos ⟨h2, e2⟩), h3, if_pos ⟨Nat.lt_succ_self k, e2⟩]; omega
      · rw [h0.trans (if_neg fun h => e2 h.2), h3, if_neg fun h => e2 h.2]
    · have h2 : (if k = q then true else Z k) = Z k := if_neg e
      have h3 : (if q < k ∧ l.getD q default = s then (1 : Int) else 0) = if q < k + 1 ∧ l.getD q default = s then 1 else 0 := by
        by_cases c : q < k ∧ l.getD q default = s
        · rw [if_pos c, if_pos ⟨by omega, c.2⟩]
        · rw [if_neg c, if_neg fun h => c ⟨by omega, h.2⟩]
      rw [← h3]
      by_cases c : Z k = true ∧ l.getD k default = s
      · rw [h0.trans (if_pos ⟨h2.trans c.1, c.2⟩), h1.trans (if_pos c)]; omega
      · rw [h0.trans (if_neg fun h => c ⟨h2.symm.trans h.1, h.2⟩), h1.trans (if_neg c)]
/-- whether sales have all records but those that are skipped -/
noncomputable def explG (rec : List SaleD) (sk : Nat → Bool) (l : List SaleD) : Bool := @decide (∀ s, recG rec sk s rec.length ≤ cntN l s l.length) (Classical.propDecidable _)
theorem explG_iff {rec : List SaleD} {sk : Nat → Bool} {l : List SaleD} : explG rec sk l = true ↔ ∀ s, recG rec sk s rec.length ≤ cntN l s l.length := by
  unfold explG
  exact @decide_eq_true_iff _ (Classical.propDecidable _)
theorem explG_no {rec : List SaleD} {sk : Nat → Bool} {l : List SaleD} {s : SaleD} (h : ¬ recG rec sk s rec.length ≤ cntN l s l.length) : explG rec sk l = false := by
  cases c : explG rec sk l
  · rfl
  · exact absurd (explG_iff.1 c s) h
theorem explG_eq {rec : List SaleD} {out : List Int} {sk : Nat → Bool} {l : List SaleD} (h : ∀ j, j < rec.length → (sk j = true ↔ (j : Int) ∈ out)) : explB (recF rec out) l = explG rec sk l := by
  rw [Bool.eq_iff_iff, expl_iff, explG_iff]
  exact ⟨fun h' s => by rw [← recN_eq rec out sk s rec.length h]; exact h' s, fun h' s => by show recN rec out s rec.length ≤ _; rw [recN_eq rec out sk s rec.length h]; exact h' s⟩
def zRows (Z : Nat → Bool) (n : Nat) : List (List AV) := (List.range n).map fun v => [boolA (Z v)]
theorem zRows_len (Z : Nat → Bool) (n : Nat) : (zRows Z n).length = n := by simp [zRows]
theorem zRows_at {Z : Nat → Bool} {n v : Nat} (h : v < n) : ((zRows Z n).getD v [])[0]? = some (boolA (Z v)) := by
  simp [zRows, List.getD_eq_getElem?_getD, h]
theorem zRows_set {Z Z' : Nat → Bool} {n v : Nat} {x : Bool} (h : v < n) (hZ : ∀ q, q < n → Z' q = if q = v then x else Z q) : (zRows Z n).set v (spA ((zRows Z n).getD v []) 0 [boolA x]) = zRows Z' n := by
  refine List.ext_getElem (by simp [zRows]) fun i h1 h2 => ?_
  simp [zRows] at h1 h2
  have hi := hZ i h2
  by_cases c : v = i
  · subst c
    rw [if_pos rfl] at hi
    simp [zRows, List.getD_eq_getElem?_getD, h, spA, hi]
  · rw [if_neg (fun e => c e.symm)] at hi
    simp [zRows, List.getElem_set, c, hi]
attribute [local irreducible] AWP AWL AOp PV LV AWT AWE
section
variable {c c' : Bool} {l rec : List SaleD} {Z : Nat → Bool} {g7 n k i : Nat} {b : Bool} {u2 u9 : AV}
theorem oq_10 (hk : k < l.length) (hi : i < rec.length) (hl : l.length ≤ 1000) (hr : rec.length ≤ 1000) (hb : (decide (l.getD k default = rec.getD i default) && !Z k) = b) {ops : Array Oper} (h : regF Try.f42 10 = some ops) :
    AWP Try.prog Try.f42.ntmps none (.region 10 ops true) (cutQ (fun s h => s = [(47, boolA b), (0, .t (salesT c l)), (1, .t (salesT c' rec)), (2, u2), (7, .v (slV g7 l.length)), (8, intA i), (9, u9), (10, intA k)] ∧ h = [.rw (slV g7 l.length) 4 1 (zRows Z l.length)]))
      [(0, .t (salesT c l)), (1, .t (salesT c' rec)), (2, u2), (7, .v (slV g7 l.length)), (8, intA i), (9, u9), (10, intA k)] [.rw (slV g7 l.length) 4 1 (zRows Z l.length)] := by
  cases h
  have r1 : ((zRows Z l.length).getD k [])[0]? = some (boolA (Z k)) := zRows_at hk
  have r2 := zRows_len Z l.length
  by_cases hc : l.getD k default = rec.getD i default
  · have d1 := decide_eq_true hc
    rw [d1, Bool.true_and] at hb
    subst hb
    refine awp_treeN T0 [(0, 0), (1, 0), (2, 0), (3, 1), (4, 0), (5, 0), (6, 0), (7, 1), (8, 0), (9, 0), (10, 0), (11, 0), (12, 0), (13, 1), (14, 0), (15, 0)] (.op 0 0 (.op 1 0 (.op 2 0 (.op 3 1 (.op 4 0 (.op 5 0 (.op 6 0 (.op 7 1 (.op 8 0 (.op 9 0 (.op 10 0 (.op 11 0 (.op 12 0 (.op 13 1 (.op 14 0 (.op 15 0 .stop)))))))))))))))) [.rw _ _ _ _] rfl (by kernel_rfl) (by solve | repeat' constructor) ?_
    refine awt_po rfl (wt_none rfl) (pv_move rfl rfl) rfl rfl ?_
    refine awt_po rfl (wt_none rfl) (pv_move rfl rfl) rfl rfl ?_
    refine awt_po rfl (wt_none rfl) (pv_ix_t T0 rfl rfl rfl rfl (by omega) (by first | exact (rfl : Int.toNat 0 = 0) | exact Int.toNat_natCast _ | rfl)) rfl rfl ?_
    refine awt_lo rfl (wt_none rfl) (lv_elt_ag T0 rfl rfl rfl rfl (by solve | repeat' constructor)) rfl rfl rfl ?_
    refine awt_po rfl (wt_none rfl) (pv_move rfl rfl) rfl rfl ?_
    refine awt_po rfl (wt_none rfl) (pv_move rfl rfl) rfl rfl ?_
    refine awt_po rfl (wt_none rfl) (pv_ix_t T0 rfl rfl rfl rfl (by omega) (by first | exact (rfl : Int.toNat 0 = 0) | exact Int.toNat_natCast _ | rfl)) rfl rfl ?_
    refine awt_lo rfl (wt_none rfl) (lv_elt_ag T0 rfl rfl rfl rfl (by solve | repeat' constructor)) rfl rfl rfl ?_
    refine awt_po rfl (wt_none rfl) (pv_eql_sale94 (s := l.getD k default) (t := rec.getD i default) rfl rfl rfl) rfl rfl ?_
    refine awt_po rfl (wt_none rfl) (pv_move rfl rfl) rfl rfl ?_
    refine awt_po rfl (wt_some' rfl rfl rfl rfl (by first | rfl | assumption | exact dT (by omega) | exact dF (by omega))) (pv_move rfl rfl) rfl rfl ?_
    refine awt_po rfl (wt_some' rfl rfl rfl rfl (by first | rfl | assumption | exact dT (by omega) | exact dF (by omega))) (pv_move rfl rfl) rfl rfl ?_
    refine awt_po rfl (wt_some' rfl rfl rfl rfl (by first | rfl | assumption | exact dT (by omega) | exact dF (by omega))) (pv_ix_own T0 rfl rfl rfl rfl (by omega) (by first | exact (rfl : Int.toNat 0 = 0) | exact Int.toNat_natCast _ | rfl)) rfl rfl ?_
    refine awt_lo rfl (wt_some' rfl rfl rfl rfl (by first | rfl | assumption | exact dT (by omega) | exact dF (by omega))) (lv_rp T0 rfl rfl rfl (by solve | repeat' constructor) (by first | omega | (simp; omega)) (by omega) (by first | assumption | rfl)) rfl rfl rfl ?_
    refine awt_po rfl (wt_some' rfl rfl rfl rfl (by first | rfl | assumption | exact dT (by omega) | exact dF (by omega))) (pv_not rfl rfl) rfl rfl ?_
    refine awt_po rfl (wt_none rfl) (pv_pick_t rfl rfl (by first | rfl | assumption | exact dT (by omega) | exact dF (by omega)) rfl) rfl rfl ?_
    refine awt_end ?_
    exact cut_n ⟨rfl, rfl⟩ (by first | ((repeat' (first | exact True.intro | refine ⟨rfl, ?_⟩)); all_goals fail) | fail) (SubH.refl _)
  · have d1 := decide_eq_false hc
    rw [d1, Bool.false_and] at hb
    subst hb
    refine awp_treeN T0 [(0, 0), (1, 0), (2, 0), (3, 1), (4, 0), (5, 0), (6, 0), (7, 1), (8, 0), (9, 0), (10, 0), (11, 0), (12, 0), (13, 1), (14, 0), (15, 0)] (.op 0 0 (.op 1 0 (.op 2 0 (.op 3 1 (.op 4 0 (.op 5 0 (.op 6 0 (.op 7 1 (.op 8 0 (.op 9 0 (.op 10 0 (.op 11 0 (.op 12 0 (.op 13 1 (.op 14 0 (.op 15 0 .stop)))))))))))))))) [.rw _ _ _ _] rfl (by kernel_rfl) (by solve | repeat' constructor) ?_
    refine awt_po rfl (wt_none rfl) (pv_move rfl rfl) rfl rfl ?_
    refine awt_po rfl (wt_none rfl) (pv_move rfl rfl) rfl rfl ?_
    refine awt_po rfl (wt_none rfl) (pv_ix_t T0 rfl rfl rfl rfl (by omega) (by first | exact (rfl : Int.toNat 0 = 0) | exact Int.toNat_natCast _ | rfl)) rfl rfl ?_
    refine awt_lo rfl (wt_none rfl) (lv_elt_ag T0 rfl rfl rfl rfl (by solve | repeat' constructor)) rfl rfl rfl ?_
    refine awt_po rfl (wt_none rfl) (pv_move rfl rfl) rfl rfl ?_
    refine awt_po rfl (wt_none rfl) (pv_move rfl rfl) rfl rfl ?_
    refine awt_po rfl (wt_none rfl) (pv_ix_t T0 rfl rfl rfl rfl (by omega) (by first | exact (rfl : Int.toNat 0 = 0) | exact Int.toNat_natCast _ | rfl)) rfl rfl ?_
    refine awt_lo rfl (wt_none rfl) (lv_elt_ag T0 rfl rfl rfl rfl (by solve | repeat' constructor)) rfl rfl rfl ?_
    refine awt_po rfl (wt_none rfl) (pv_eql_sale94 (s := l.getD k default) (t := rec.getD i default) rfl rfl rfl) rfl rfl ?_
    refine awt_po rfl (wt_none rfl) (pv_move rfl rfl) rfl rfl ?_
    refine awt_sk0 rfl (wf_some rfl rfl rfl rfl (by first | rfl | assumption | exact dT (by omega) | exact dF (by omega))) rfl rfl (fun _ _ h => h) rfl ?_
    refine awt_sk0 rfl (wf_some rfl rfl rfl rfl (by first | rfl | assumption | exact dT (by omega) | exact dF (by omega))) rfl rfl (fun _ _ h => h) rfl ?_
    refine awt_sk0 rfl (wf_some rfl rfl rfl rfl (by first | rfl | assumption | exact dT (by omega) | exact dF (by omega))) rfl rfl (fun _ _ h => h) rfl ?_
    refine awt_sk1 rfl (wf_some rfl rfl rfl rfl (by first | rfl | assumption | exact dT (by omega) | exact dF (by omega))) rfl rfl (fun _ _ h => h) rfl ?_
    refine awt_sk0 rfl (wf_some rfl rfl rfl rfl (by first | rfl | assumption | exact dT (by omega) | exact dF (by omega))) rfl rfl (fun _ _ h => h) rfl ?_
    refine awt_po rfl (wt_none rfl) (pv_pick_f rfl rfl (by first | rfl | assumption | exact dT (by omega) | exact dF (by omega)) rfl) rfl rfl ?_
    refine awt_end ?_
    simp only [d1]
    exact cut_n ⟨rfl, rfl⟩ (by first | ((repeat' (first | exact True.intro | refine ⟨rfl, ?_⟩)); all_goals fail) | fail) (SubH.refl _)
end
theorem rep_false (n : Nat) : List.replicate n [AV.v (Value.bool false)] = zRows (fun _ => false) n := by
  refine List.ext_getElem (by simp [zRows]) fun i h1 h2 => ?_
  simp [zRows]
theorem use_none (l : List SaleD) (s : SaleD) : ∀ k, useN l (fun _ => false) s k = 0
  | 0 => rfl
  | k + 1 => by
    simp only [useN]
    rw [if_neg (fun h => by cases h.1)]
    exact use_none l s k
theorem refexpl_p (c c' : Bool) (l rec : List SaleD) (m : Nat) (hl : l.length ≤ 1000) (hr : rec.length ≤ 60) (hm : m < 100000) : PCall Try.prog 42 [.t (salesT c l), .t (salesT c' rec), intA m] (fun r => r = boolA (explG rec (fun i => m.testBit i) l)) := by
  refine acall_of_awp T0 Try.func42 rfl rfl rfl ?_
  repeat (first | refine awp_seq ?_ | refine awp_region_lit rfl ?_ | ((first | (show AWL _ _ _ (⟨_, .move _, _, _, _, _⟩ :: _) _ _ _; refine awl_pw ?wtq (pv_move rfl rfl) rfl rfl ?_) | (show AWL _ _ _ (⟨_, .assign _, _, _, _, _⟩ :: _) _ _ _; refine awl_pw ?wtq (pv_assign rfl rfl) rfl rfl ?_) | (show AWL _ _ _ (⟨_, .call ⟨.builtin .len, _, _⟩, _, _, _, _⟩ :: _) _ _ _; refine awl_pw ?wtq (pv_len_t T0 rfl rfl rfl) rfl rfl ?_)); case wtq => first | exact wt_none rfl | exact wt_some' rfl rfl rfl rfl (by first | rfl | assumption | exact dT (by omega) | exact dF (by omega))) | refine awl_nil ?_)
  refine awl_hw (by first | exact wt_none rfl | exact wt_some' rfl rfl rfl rfl (by first | rfl | assumption | exact dT (by omega) | exact dF (by omega))) (aop_make T0 rfl rfl rfl rfl rfl rfl rfl rfl (by omega) rfl ?_)
  intro g7
  rw [rep_false]
  repeat (first | refine awp_seq ?_ | refine awp_block ?_ | refine awp_region_lit rfl ?_ | ((first | (show AWL _ _ _ (⟨_, .assign _, _, _, _, _⟩ :: _) _ _ _; refine awl_pw ?wtq (pv_assign rfl rfl) rfl rfl ?_)); case wtq => first | exact wt_none rfl | exact wt_some' rfl rfl rfl rfl (by first | rfl | assumption | exact dT (by omega) | exact dF (by omega))) | refine awl_nil ?_)
  refine awp_loop (fun w s h => ∃ (i : Nat) (Z : Nat → Bool), i ≤ rec.length ∧ w = rec.length - i ∧ (∀ s, useN l Z s l.length = recG rec (fun i => m.testBit i) s i) ∧ s = [(0, .t (salesT c l)), (1, .t (salesT c' rec)), (2, intA m), (7, .v (slV g7 l.length)), (8, intA i)] ∧ h = [.rw (slV g7 l.length) 4 1 (zRows Z l.length)]) ?_ ⟨0, fun _ => false, Nat.zero_le _, rfl, fun s => use_none l s l.length, rfl, rfl⟩ (by first | ((repeat' (first | exact True.intro | refine ⟨rfl, ?_⟩)); all_goals fail) | fail) (by solve | repeat' constructor)
  rintro w s h ⟨i, Z, hi, rfl, hZ, rfl, rfl⟩
  by_cases hir : i < rec.length
  case neg =>
    obtain rfl : i = rec.length := by omega
    have he : explG rec (fun i => m.testBit i) l = true := explG_iff.2 fun s => by rw [← hZ s]; exact use_le l Z s l.length
    rw [he]
    repeat (first | refine awp_seq ?_ | refine awp_region_lit rfl ?_ | refine awp_exit ?_ | refine awp_ret ?_ | refine then_n ?_ | refine awp_cond_f rfl (by first | rfl | assumption | exact dF (by omega)) ?_ | ((first | (show AWL _ _ _ (⟨_, .move _, _, _, _, _⟩ :: _) _ _ _; refine awl_pw ?wtq (pv_move rfl rfl) rfl rfl ?_) | (show AWL _ _ _ (⟨_, .assign _, _, _, _, _⟩ :: _) _ _ _; refine awl_pw ?wtq (pv_assign rfl rfl) rfl rfl ?_) | (show AWL _ _ _ (⟨_, .binOp .lss _ _ _ _, _, _, _, _⟩ :: _) _ _ _; refine awl_pw ?wtq (pv_lss rfl rfl rfl) rfl rfl ?_) | (show AWL _ _ _ (⟨_, .call ⟨.builtin .len, _, _⟩, _, _, _, _⟩ :: _) _ _ _; refine awl_pw ?wtq (pv_len_t T0 rfl rfl rfl) rfl rfl ?_)); case wtq => first | exact wt_none rfl | exact wt_some' rfl rfl rfl rfl (by first | rfl | assumption | exact dT (by omega) | exact dF (by omega))) | refine awl_nil ?_)
    exact body_p (.cons rfl .nil) rfl
  have hw : IntKind.u64.wrap ((i : Nat) : Int) = (i : Int) := wu64 (by omega)
  have hbd := bit_dec m i
  have hs1 := bit_fdiv m (i := (i : Int)) (j := i) rfl (by omega)
  have hr1 := bit_rem (m / 2 ^ i)
  repeat (first | refine awp_seq ?_ | refine awp_block ?_ | refine awp_region_lit rfl ?_ | refine awp_skip ?_ | refine then_n ?_ | refine awp_cond_t rfl (by first | rfl | assumption | exact dT (by omega)) ?_ | ((first | (show AWL _ _ _ (⟨_, .move _, _, _, _, _⟩ :: _) _ _ _; refine awl_pw ?wtq (pv_move rfl rfl) rfl rfl ?_) | (show AWL _ _ _ (⟨_, .binOp .lss _ _ _ _, _, _, _, _⟩ :: _) _ _ _; refine awl_pw ?wtq (pv_lss rfl rfl rfl) rfl rfl ?_) | (show AWL _ _ _ (⟨_, .call ⟨.builtin .len, _, _⟩, _, _, _, _⟩ :: _) _ _ _; refine awl_pw ?wtq (pv_len_t T0 rfl rfl rfl) rfl rfl ?_)); case wtq => first | exact wt_none rfl | exact wt_some' rfl rfl rfl rfl (by first | rfl | assumption | exact dT (by omega) | exact dF (by omega))) | refine awl_nil ?_)
  refine awl_pw (wt_none rfl) (pv_convert rfl rfl Try.underlying3 Try.underlying93 hw) rfl rfl ?_
  refine awl_pw (wt_none rfl) (pv_shr rfl rfl rfl (by omega) hs1) rfl rfl ?_
  repeat (first | refine then_n ?_ | ((first | (show AWL _ _ _ (⟨_, .binOp .rem _ _ _ _, _, _, _, _⟩ :: _) _ _ _; refine awl_pw ?wtq (pv_rem rfl rfl rfl (by omega) (by first | assumption | rfl)) rfl rfl ?_) | (show AWL _ _ _ (⟨_, .binOp .eql _ _ _ _, _, _, _, _⟩ :: _) _ _ _; refine awl_pw ?wtq (pv_eql rfl rfl rfl) rfl rfl ?_)); case wtq => first | exact wt_none rfl | exact wt_some' rfl rfl rfl rfl (by first | rfl | assumption | exact dT (by omega) | exact dF (by omega))) | refine awl_nil ?_)
  rw [hbd]
  have hrs : ∀ s, recG rec (fun i => m.testBit i) s (i + 1) = if m.testBit i = false ∧ rec.getD i default = s then recG rec (fun i => m.testBit i) s i + 1 else recG rec (fun i => m.testBit i) s i := fun _ => rfl
  cases e1 : m.testBit i
  case true =>
    repeat (first | refine awp_region_lit rfl ?_ | refine awp_exit ?_ | refine awp_cond_t rfl (by first | rfl | assumption | exact dT (by omega)) ?_ | ((first | (show AWL _ _ _ (⟨_, .move _, _, _, _, _⟩ :: _) _ _ _; refine awl_pw ?wtq (pv_move rfl rfl) rfl rfl ?_) | (show AWL _ _ _ (⟨_, .assign _, _, _, _, _⟩ :: _) _ _ _; refine awl_pw ?wtq (pv_assign rfl rfl) rfl rfl ?_) | (show AWL _ _ _ (⟨_, .binOp .add _ _ _ _, _, _, _, _⟩ :: _) _ _ _; refine awl_pw ?wtq (pv_add rfl rfl rfl (by first | assumption | exact wr64 (by omega))) rfl rfl ?_)); case wtq => first | exact wt_none rfl | exact wt_some' rfl rfl rfl rfl (by first | rfl | assumption | exact dT (by omega) | exact dF (by omega))) | refine awl_nil ?_)
    refine rnd_n _ _ _ ?_ ⟨i + 1, Z, hir, rfl, fun s => ?_, rfl, rfl⟩ (by first | ((repeat' (first | exact True.intro | refine ⟨rfl, ?_⟩)); all_goals fail) | fail) (by solve | repeat' constructor)
    · omega
    · rw [hrs, if_neg (fun h => by rw [e1] at h; cases h.1)]; exact hZ s
  repeat (first | refine awp_seq ?_ | refine awp_block ?_ | refine awp_region_lit rfl ?_ | refine awp_skip ?_ | refine awp_cond_f rfl (by first | rfl | assumption | exact dF (by omega)) ?_ | ((first | (show AWL _ _ _ (⟨_, .assign _, _, _, _, _⟩ :: _) _ _ _; refine awl_pw ?wtq (pv_assign rfl rfl) rfl rfl ?_)); case wtq => first | exact wt_none rfl | exact wt_some' rfl rfl rfl rfl (by first | rfl | assumption | exact dT (by omega) | exact dF (by omega))) | refine awl_nil ?_)
  refine awp_cutX (fun s h => ∃ (fd : Bool) (Z' : Nat → Bool), (fd = true → ∀ s, useN l Z' s l.length = useN l Z s l.length + if rec.getD i default = s then 1 else 0) ∧ (fd = false → ∀ j, j < l.length → l.getD j default = rec.getD i default → Z j = true) ∧ s = [(0, .t (salesT c l)), (1, .t (salesT c' rec)), (2, intA m), (7, .v (slV g7 l.length)), (8, intA i), (9, boolA fd)] ∧ h = [.rw (slV g7 l.length) 4 1 (zRows Z' l.length)]) ?_ ?_
  · refine awp_loop (fun w s h => ∃ (k : Nat), k ≤ l.length ∧ w = l.length - k ∧ (∀ j, j < k → l.getD j default = rec.getD i default → Z j = true) ∧ s = [(0, .t (salesT c l)), (1, .t (salesT c' rec)), (2, intA m), (7, .v (slV g7 l.length)), (8, intA i), (9, boolA false), (10, intA k)] ∧ h = [.rw (slV g7 l.length) 4 1 (zRows Z l.length)]) ?_ ⟨0, Nat.zero_le _, rfl, (fun j hj => absurd hj (Nat.not_lt_zero _)), rfl, rfl⟩ (by first | ((repeat' (first | exact True.intro | refine ⟨rfl, ?_⟩)); all_goals fail) | fail) (by solve | repeat' constructor)
    rintro w s h ⟨k, hk, rfl, hno, rfl, rfl⟩
    by_cases hkt : k < l.length
    case neg =>
      repeat (first | refine awp_seq ?_ | refine awp_region_lit rfl ?_ | refine awp_exit ?_ | refine then_n ?_ | refine then_x ?_ | refine blk_x ?_ | refine rnd_x ?_ | refine awp_cond_f rfl (by first | rfl | assumption | exact dF (by omega)) ?_ | ((first | (show AWL _ _ _ (⟨_, .move _, _, _, _, _⟩ :: _) _ _ _; refine awl_pw ?wtq (pv_move rfl rfl) rfl rfl ?_) | (show AWL _ _ _ (⟨_, .binOp .lss _ _ _ _, _, _, _, _⟩ :: _) _ _ _; refine awl_pw ?wtq (pv_lss rfl rfl rfl) rfl rfl ?_) | (show AWL _ _ _ (⟨_, .call ⟨.builtin .len, _, _⟩, _, _, _, _⟩ :: _) _ _ _; refine awl_pw ?wtq (pv_len_t T0 rfl rfl rfl) rfl rfl ?_)); case wtq => first | exact wt_none rfl | exact wt_some' rfl rfl rfl rfl (by first | rfl | assumption | exact dT (by omega) | exact dF (by omega))) | refine awl_nil ?_)
      exact cut_n ⟨false, Z, (fun h => by cases h), (fun _ j hj => hno j (by omega)), rfl, rfl⟩ (by first | ((repeat' (first | exact True.intro | refine ⟨rfl, ?_⟩)); all_goals fail) | fail) (by solve | repeat' constructor)
    repeat (first | refine awp_seq ?_ | refine awp_block ?_ | refine awp_region_lit rfl ?_ | refine awp_skip ?_ | refine then_n ?_ | refine awp_cond_t rfl (by first | rfl | assumption | exact dT (by omega)) ?_ | ((first | (show AWL _ _ _ (⟨_, .move _, _, _, _, _⟩ :: _) _ _ _; refine awl_pw ?wtq (pv_move rfl rfl) rfl rfl ?_) | (show AWL _ _ _ (⟨_, .binOp .lss _ _ _ _, _, _, _, _⟩ :: _) _ _ _; refine awl_pw ?wtq (pv_lss rfl rfl rfl) rfl rfl ?_) | (show AWL _ _ _ (⟨_, .call ⟨.builtin .len, _, _⟩, _, _, _, _⟩ :: _) _ _ _; refine awl_pw ?wtq (pv_len_t T0 rfl rfl rfl) rfl rfl ?_)); case wtq => first | exact wt_none rfl | exact wt_some' rfl rfl rfl rfl (by first | rfl | assumption | exact dT (by omega) | exact dF (by omega))) | refine awl_nil ?_)
    cases hb : (decide (l.getD k default = rec.getD i default) && !Z k)
    · refine awp_cut _ (awp_weak (by first | ((repeat' (first | exact True.intro | refine ⟨rfl, ?_⟩)); all_goals fail) | fail) (by solve | repeat' constructor) (oq_10 (c := c) (c' := c') (l := l) (rec := rec) (Z := Z) (g7 := g7) (k := k) (i := i) (b := false) (u2 := intA m) (u9 := boolA false) hkt hir hl (by omega) hb rfl)) ?_
      rintro s h ⟨rfl, rfl⟩
      repeat (first | refine awp_region_lit rfl ?_ | refine awp_skip ?_ | refine awp_cond_f rfl (by first | rfl | assumption | exact dF (by omega)) ?_ | ((first | (show AWL _ _ _ (⟨_, .move _, _, _, _, _⟩ :: _) _ _ _; refine awl_pw ?wtq (pv_move rfl rfl) rfl rfl ?_) | (show AWL _ _ _ (⟨_, .assign _, _, _, _, _⟩ :: _) _ _ _; refine awl_pw ?wtq (pv_assign rfl rfl) rfl rfl ?_) | (show AWL _ _ _ (⟨_, .binOp .add _ _ _ _, _, _, _, _⟩ :: _) _ _ _; refine awl_pw ?wtq (pv_add rfl rfl rfl (by first | assumption | exact wr64 (by omega))) rfl rfl ?_)); case wtq => first | exact wt_none rfl | exact wt_some' rfl rfl rfl rfl (by first | rfl | assumption | exact dT (by omega) | exact dF (by omega))) | refine awl_nil ?_)
      refine rnd_n _ _ _ ?_ ⟨k + 1, hkt, rfl, fun j hj e => ?_, rfl, rfl⟩ (by first | ((repeat' (first | exact True.intro | refine ⟨rfl, ?_⟩)); all_goals fail) | fail) (by solve | repeat' constructor)
      · omega
      · by_cases ej : j = k
        · subst ej
          rw [decide_eq_true e, Bool.true_and] at hb
          simpa using hb
        · exact hno j (by omega) e
    · simp only [Bool.and_eq_true, decide_eq_true_eq, Bool.not_eq_true'] at hb
      have hset := zRows_set (Z := Z) (Z' := fun j => if j = k then true else Z j) (x := true) hkt (fun q _ => rfl)
      have r2 := zRows_len Z l.length
      refine awp_cut _ (awp_weak (by first | ((repeat' (first | exact True.intro | refine ⟨rfl, ?_⟩)); all_goals fail) | fail) (by solve | repeat' constructor) (oq_10 (c := c) (c' := c') (l := l) (rec := rec) (Z := Z) (g7 := g7) (k := k) (i := i) (b := true) (u2 := intA m) (u9 := boolA false) hkt hir hl (by omega) (by rw [decide_eq_true hb.1, hb.2]; rfl) rfl)) ?_
      rintro s h ⟨rfl, rfl⟩
      repeat (first | refine awp_seq ?_ | refine awp_region_lit rfl ?_ | refine awp_cond_t rfl (by first | rfl | assumption | exact dT (by omega)) ?_ | ((first | (show AWL _ _ _ (⟨_, .move _, _, _, _, _⟩ :: _) _ _ _; refine awl_pw ?wtq (pv_move rfl rfl) rfl rfl ?_) | (show AWL _ _ _ (⟨_, .indexAddr _ _ _, _, _, _, _⟩ :: _) _ _ _; refine awl_pw ?wtq (pv_ix_own T0 rfl rfl rfl rfl (by omega) (by first | exact (rfl : Int.toNat 0 = 0) | exact Int.toNat_natCast _ | rfl)) rfl rfl ?_)); case wtq => first | exact wt_none rfl | exact wt_some' rfl rfl rfl rfl (by first | rfl | assumption | exact dT (by omega) | exact dF (by omega))))
      refine awl_hw (by first | exact wt_none rfl | exact wt_some' rfl rfl rfl rfl (by first | rfl | assumption | exact dT (by omega) | exact dF (by omega))) (aop_store_rp T0 rfl rfl rfl rfl rfl rfl rfl rfl (by solve | repeat' constructor) (by first | omega | (simp; omega)) (by omega) rfl trivial ?_)
      simp only [cellsA]
      rw [hset]
      repeat (first | refine awp_exit ?_ | refine then_x ?_ | refine blk_x ?_ | refine blk_y rfl ?_ | refine rnd_x ?_ | ((first | (show AWL _ _ _ (⟨_, .assign _, _, _, _, _⟩ :: _) _ _ _; refine awl_pw ?wtq (pv_assign rfl rfl) rfl rfl ?_)); case wtq => first | exact wt_none rfl | exact wt_some' rfl rfl rfl rfl (by first | rfl | assumption | exact dT (by omega) | exact dF (by omega))) | refine awl_nil ?_)
      refine cut_n ⟨true, fun j => if j = k then true else Z j, (fun _ s => ?_), (fun h => by cases h), rfl, rfl⟩ (by first | ((repeat' (first | exact True.intro | refine ⟨rfl, ?_⟩)); all_goals fail) | fail) (by solve | repeat' constructor)
      rw [use_set hb.2, hb.1]
      by_cases e : rec.getD i default = s
      · rw [if_pos ⟨hkt, e⟩, if_pos e]
      · rw [if_neg (fun h => e h.2), if_neg e]
  rintro s h ⟨fd, Z', hy, hn, rfl, rfl⟩
  cases fd
  · have hno := hn rfl
    have he : explG rec (fun i => m.testBit i) l = false := explG_no (s := rec.getD i default) fun h => by
      have h1 := recG_mono rec (fun i => m.testBit i) (rec.getD i default) (k := i + 1) (n := rec.length) hir
      rw [hrs, if_pos ⟨e1, rfl⟩, ← hZ, use_all l.length hno] at h1
      omega
    rw [he]
    repeat (first | refine awp_seq ?_ | refine awp_region_lit rfl ?_ | refine awp_ret ?_ | refine then_n ?_ | refine then_r ?_ | refine blk_r ?_ | refine rnd_r ?_ | refine awp_cond_t rfl (by first | rfl | assumption | exact dT (by omega)) ?_ | ((first | (show AWL _ _ _ (⟨_, .move _, _, _, _, _⟩ :: _) _ _ _; refine awl_pw ?wtq (pv_move rfl rfl) rfl rfl ?_) | (show AWL _ _ _ (⟨_, .assign _, _, _, _, _⟩ :: _) _ _ _; refine awl_pw ?wtq (pv_assign rfl rfl) rfl rfl ?_) | (show AWL _ _ _ (⟨_, .unOp .not _ _, _, _, _, _⟩ :: _) _ _ _; refine awl_pw ?wtq (pv_not rfl rfl) rfl rfl ?_)); case wtq => first | exact wt_none rfl | exact wt_some' rfl rfl rfl rfl (by first | rfl | assumption | exact dT (by omega) | exact dF (by omega))) | refine awl_nil ?_)
    exact body_p (.cons rfl .nil) rfl
  · repeat (first | refine awp_seq ?_ | refine awp_region_lit rfl ?_ | refine awp_skip ?_ | refine then_n ?_ | refine awp_cond_f rfl (by first | rfl | assumption | exact dF (by omega)) ?_ | ((first | (show AWL _ _ _ (⟨_, .move _, _, _, _, _⟩ :: _) _ _ _; refine awl_pw ?wtq (pv_move rfl rfl) rfl rfl ?_) | (show AWL _ _ _ (⟨_, .assign _, _, _, _, _⟩ :: _) _ _ _; refine awl_pw ?wtq (pv_assign rfl rfl) rfl rfl ?_) | (show AWL _ _ _ (⟨_, .binOp .add _ _ _ _, _, _, _, _⟩ :: _) _ _ _; refine awl_pw ?wtq (pv_add rfl rfl rfl (by first | assumption | exact wr64 (by omega))) rfl rfl ?_) | (show AWL _ _ _ (⟨_, .unOp .not _ _, _, _, _, _⟩ :: _) _ _ _; refine awl_pw ?wtq (pv_not rfl rfl) rfl rfl ?_)); case wtq => first | exact wt_none rfl | exact wt_some' rfl rfl rfl rfl (by first | rfl | assumption | exact dT (by omega) | exact dF (by omega))) | refine awl_nil ?_)
    refine rnd_n _ _ _ ?_ ⟨i + 1, Z', hir, rfl, fun s => ?_, rfl, rfl⟩ (by first | ((repeat' (first | exact True.intro | refine ⟨rfl, ?_⟩)); all_goals fail) | fail) (by solve | repeat' constructor)
    · omega
    · rw [hy rfl, hrs, hZ]
      by_cases e : rec.getD i default = s
      · rw [if_pos e, if_pos ⟨e1, e⟩]
      · rw [if_neg e, if_neg (fun h => e h.2)]; omega
theorem lawrec_p (c : Bool) (p : PostD) (l : List SaleD) (hl : p.ords.length ≤ 1000) (hll : l.length ≤ 1000) : PCall Try.prog 39 [postA false p, .t (salesT c l)] (fun r => r = intA (recdN p l)) := by
  refine acall_of_awp T0 Try.func39 rfl rfl rfl ?_
  have hfr := fault_rng p
  unfold recdN
  repeat (first | refine awp_seq ?_ | refine awp_region_lit rfl ?_)
  refine awl_hw (by first | exact wt_none rfl | exact wt_some' rfl rfl rfl rfl (by first | rfl | assumption | exact dT (by omega) | exact dF (by omega))) (st_box rfl rfl (by first | rfl | assumption) (by first | assumption | (simp only [cellsA]; rfl)) rfl rfl ?_)
  intro g2
  repeat (first | refine awp_seq ?_ | refine awp_region_lit rfl ?_ | ((first | (show AWL _ _ _ (⟨_, .assign _, _, _, _, _⟩ :: _) _ _ _; refine awl_pw ?wtq (pv_assign rfl rfl) rfl rfl ?_) | (show AWL _ _ _ (⟨_, .load _ _, _, _, _, _⟩ :: _) _ _ _; refine awl_lw ?wtq (lv_cla T0 rfl rfl rfl (by solve | repeat' constructor) rfl) rfl rfl rfl ?_)); case wtq => first | exact wt_none rfl | exact wt_some' rfl rfl rfl rfl (by first | rfl | assumption | exact dT (by omega) | exact dF (by omega))) | refine awl_nil ?_)
  refine awl_hw (by first | exact wt_none rfl | exact wt_some' rfl rfl rfl rfl (by first | rfl | assumption | exact dT (by omega) | exact dF (by omega))) (st_call T0 (lawfault_p false p hl) rfl rfl rfl rfl (by first | exact callee_lit | exact callee_v | exact callee_fn | assumption) (by solve | repeat' constructor) (by first | rfl | assumption) rfl ?_)
  rintro _ rfl
  by_cases h1 : faultN p = 0
  case neg =>
    have d1 : decide (faultN p ≠ 0) = true := decide_eq_true h1
    rw [if_pos h1]
    repeat (first | refine awp_seq ?_ | refine awp_region_lit rfl ?_ | refine awp_ret ?_ | refine then_n ?_ | refine then_r ?_ | refine awp_cond_t rfl (by first | rfl | assumption | exact dT (by omega)) ?_ | ((first | (show AWL _ _ _ (⟨_, .move _, _, _, _, _⟩ :: _) _ _ _; refine awl_pw ?wtq (pv_move rfl rfl) rfl rfl ?_) | (show AWL _ _ _ (⟨_, .assign _, _, _, _, _⟩ :: _) _ _ _; refine awl_pw ?wtq (pv_assign rfl rfl) rfl rfl ?_) | (show AWL _ _ _ (⟨_, .binOp .neq _ _ _ _, _, _, _, _⟩ :: _) _ _ _; refine awl_pw ?wtq (pv_neq rfl rfl rfl) rfl rfl ?_)); case wtq => first | exact wt_none rfl | exact wt_some' rfl rfl rfl rfl (by first | rfl | assumption | exact dT (by omega) | exact dF (by omega))) | refine awl_nil ?_)
    exact body_p (.cons rfl .nil) rfl
  have d1 : decide (faultN p ≠ 0) = false := decide_eq_false (fun h => h h1)
  rw [if_neg (fun h => h h1)]
  by_cases h2 : 6 < l.length
  · have d2 : decide ((6 : Int) < l.length) = true := decide_eq_true (by omega)
    rw [if_pos h2]
    repeat (first | refine awp_seq ?_ | refine awp_region_lit rfl ?_ | refine awp_skip ?_ | refine awp_ret ?_ | refine then_n ?_ | refine then_r ?_ | refine awp_cond_t rfl (by first | rfl | assumption | exact dT (by omega)) ?_ | refine awp_cond_f rfl (by first | rfl | assumption | exact dF (by omega)) ?_ | ((first | (show AWL _ _ _ (⟨_, .move _, _, _, _, _⟩ :: _) _ _ _; refine awl_pw ?wtq (pv_move rfl rfl) rfl rfl ?_) | (show AWL _ _ _ (⟨_, .assign _, _, _, _, _⟩ :: _) _ _ _; refine awl_pw ?wtq (pv_assign rfl rfl) rfl rfl ?_) | (show AWL _ _ _ (⟨_, .binOp .gtr _ _ _ _, _, _, _, _⟩ :: _) _ _ _; refine awl_pw ?wtq (pv_gtr rfl rfl rfl) rfl rfl ?_) | (show AWL _ _ _ (⟨_, .binOp .neq _ _ _ _, _, _, _, _⟩ :: _) _ _ _; refine awl_pw ?wtq (pv_neq rfl rfl rfl) rfl rfl ?_) | (show AWL _ _ _ (⟨_, .call ⟨.builtin .len, _, _⟩, _, _, _, _⟩ :: _) _ _ _; refine awl_pw ?wtq (pv_len_t T0 rfl rfl rfl) rfl rfl ?_)); case wtq => first | exact wt_none rfl | exact wt_some' rfl rfl rfl rfl (by first | rfl | assumption | exact dT (by omega) | exact dF (by omega))) | refine awl_nil ?_)
    exact body_p (.cons rfl .nil) rfl
  · have d2 : decide ((6 : Int) < l.length) = false := decide_eq_false (by omega)
    rw [if_neg h2]
    repeat (first | refine awp_seq ?_ | refine awp_region_lit rfl ?_ | refine awp_skip ?_ | refine awp_ret ?_ | refine then_n ?_ | refine awp_cond_f rfl (by first | rfl | assumption | exact dF (by omega)) ?_ | ((first | (show AWL _ _ _ (⟨_, .move _, _, _, _, _⟩ :: _) _ _ _; refine awl_pw ?wtq (pv_move rfl rfl) rfl rfl ?_) | (show AWL _ _ _ (⟨_, .assign _, _, _, _, _⟩ :: _) _ _ _; refine awl_pw ?wtq (pv_assign rfl rfl) rfl rfl ?_) | (show AWL _ _ _ (⟨_, .binOp .gtr _ _ _ _, _, _, _, _⟩ :: _) _ _ _; refine awl_pw ?wtq (pv_gtr rfl rfl rfl) rfl rfl ?_) | (show AWL _ _ _ (⟨_, .binOp .neq _ _ _ _, _, _, _, _⟩ :: _) _ _ _; refine awl_pw ?wtq (pv_neq rfl rfl rfl) rfl rfl ?_) | (show AWL _ _ _ (⟨_, .call ⟨.builtin .len, _, _⟩, _, _, _, _⟩ :: _) _ _ _; refine awl_pw ?wtq (pv_len_t T0 rfl rfl rfl) rfl rfl ?_)); case wtq => first | exact wt_none rfl | exact wt_some' rfl rfl rfl rfl (by first | rfl | assumption | exact dT (by omega) | exact dF (by omega))) | refine awl_nil ?_)
    exact body_p (.cons rfl .nil) rfl
theorem expl_none (l : List SaleD) (x : List SaleD) : explB (recF l []) x = explG l (fun i => (0 : Nat).testBit i) x := explG_eq fun j _ => by simp
end Go.Proofs.Yteaoclpikdmkiaa
