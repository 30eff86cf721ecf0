/- Some of the sales, plain: a truth whose sales hold them explains them. -/
import Derived.Test.YteaoclpikdmkiaaOe
namespace Go.Proofs.Yteaoclpikdmkiaa
open Go Go.RowKit Go.Tl
set_option linter.unusedVariables false
set_option linter.unusedSimpArgs false
def someL (l : List SaleD) (B : Nat → Bool) : Nat → List SaleD
  | 0 => []
  | k + 1 => if B k = true then someL l B k ++ [l.getD k default] else someL l B k
theorem some_len (l : List SaleD) (B : Nat → Bool) : ∀ k, (someL l B k).length ≤ k
  | 0 => Nat.le_refl _
  | k + 1 => by
    have ih := some_len l B k
    simp only [someL]
    split
    · rw [List.length_append, List.length_singleton]; omega
    · omega
theorem cnt_app (l m : List SaleD) (s : SaleD) : ∀ k, k ≤ l.length → cntN (l ++ m) s k = cntN l s k
  | 0, _ => rfl
  | k + 1, hk => by
    have ih := cnt_app l m s k (by omega)
    have e : (l ++ m).getD k default = l.getD k default := by
      rw [List.getD_eq_getElem?_getD, List.getElem?_append_left (by omega), ← List.getD_eq_getElem?_getD]
    simp only [cntN]
    rw [e, ih]
theorem cnt_snoc (l : List SaleD) (x s : SaleD) : cntN (l ++ [x]) s (l ++ [x]).length = if x = s then cntN l s l.length + 1 else cntN l s l.length := by
  rw [List.length_append, List.length_singleton]
  simp only [cntN]
  have e : (l ++ [x]).getD l.length default = x := by simp [List.getD_eq_getElem?_getD]
  rw [e, cnt_app l [x] s l.length (Nat.le_refl _)]
theorem some_cnt (l : List SaleD) (B : Nat → Bool) (s : SaleD) : ∀ k, cntN (someL l B k) s (someL l B k).length ≤ cntN l s k
  | 0 => by simp [someL, cntN]
  | k + 1 => by
    have ih := some_cnt l B s k
    simp only [someL, cntN]
    by_cases c : B k = true
    · rw [if_pos c, cnt_snoc]
      split <;> omega
    · rw [if_neg c]
      split <;> omega
theorem recN_nil (l : List SaleD) (s : SaleD) : ∀ k, recN l [] s k = cntN l s k
  | 0 => rfl
  | k + 1 => by
    have ih := recN_nil l s k
    simp only [recN, cntN]
    rw [ih]
    by_cases c : l.getD k default = s
    · rw [if_pos c, if_pos ⟨by simp, c⟩]
    · rw [if_neg c, if_neg (fun h => c h.2)]
theorem cnt_all (l : List SaleD) (B : Nat → Bool) (s : SaleD) : recF (someL l B l.length) [] s ≤ cntN l s l.length := by
  show recN (someL l B l.length) [] s (someL l B l.length).length ≤ _
  rw [recN_nil]
  exact some_cnt l B s l.length
/-- what is recorded of a truth is explained by it -/
theorem some_expl (l : List SaleD) (B : Nat → Bool) : explB (recF (someL l B l.length) []) l = true := expl_iff.2 fun s => cnt_all l B s
theorem some_recd {p : PostD} (hf : faultN p = 0) {l : List SaleD} (hl : l.length ≤ 6) (B : Nat → Bool) : recdN p (someL l B l.length) = 0 := by
  unfold recdN
  have := some_len l B l.length
  rw [if_neg (fun h => h hf), if_neg (by omega)]
theorem some_any {p : PostD} (hv : VPost p) {t : List Int} (ht : truthB p t = true) (B : Nat → Bool) : ((leaves p).any fun x => explB (recF (someL (playT p t) B (playT p t).length) []) x.1) = true := by
  obtain ⟨x, hx, e⟩ := leaves_complete hv ht
  refine List.any_eq_true.2 ⟨x, hx, ?_⟩
  rw [e]
  exact some_expl _ B
theorem some_prove {p : PostD} (hf : faultN p = 0) {t : List Int} (ht : truthB p t = true) (hl : (playT p t).length ≤ 6) (B : Nat → Bool) : proveB p t (someL (playT p t) B (playT p t).length) = true := by
  unfold proveB
  rw [decide_eq_true (some_recd hf hl B), ht, some_expl]
  rfl
theorem some_explain {p : PostD} (hv : VPost p) (hf : faultN p = 0) {t : List Int} (ht : truthB p t = true) (hl : (playT p t).length ≤ 6) (B : Nat → Bool) : ∃ t', explainR p (someL (playT p t) B (playT p t).length) = (t', 0) ∧ t'.length = p.ords.length ∧ proveB p t' (someL (playT p t) B (playT p t).length) = true := by
  have ha := some_any hv ht B
  obtain ⟨x, hx, hq, e⟩ := last_leaf ha
  obtain ⟨h1, h2⟩ := leaves_sound hv hx
  refine ⟨x.2, ?_, (truth_iff.1 h1).1, ?_⟩
  · unfold explainR
    rw [if_neg (fun h => h (some_recd hf hl B)), if_pos ha, e]
  · have hq' : explB (recF (someL (playT p t) B (playT p t).length) []) x.1 = true := hq
    unfold proveB
    rw [decide_eq_true (some_recd hf hl B), h1, ← h2, hq']
    rfl
theorem some_leave {p : PostD} (hv : VPost p) (hf : faultN p = 0) {t : List Int} (ht : truthB p t = true) (hl : (playT p t).length ≤ 6) (B : Nat → Bool) : leaveR p (someL (playT p t) B (playT p t).length) = ([], 0) := by
  have ha := some_any hv ht B
  unfold leaveR
  rw [if_neg (fun h => h (some_recd hf hl B)), sizes_step (Nat.zero_le _)]
  have hc : canB p (someL (playT p t) B (playT p t).length) ([] ++ []) = true := ha
  have h : leR p (someL (playT p t) B (playT p t).length) [] (combosL (someL (playT p t) B (playT p t).length).length 0 0 ++ sizesL (someL (playT p t) B (playT p t).length).length (0 + 1)) = (true, []) := by
    unfold leR
    simp only [combosL, List.singleton_append, List.find?_cons, hc]
    rfl
  rw [h]
  rfl
end Go.Proofs.Yteaoclpikdmkiaa
