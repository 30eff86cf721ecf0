/- Contracts against one another: plain. -/
import Derived.Test.YtallicfckbdeaaaLk
namespace Go.Proofs.Ytallicfckbdeaaa
open Go Go.RowKit Go.Tl
set_option linter.unusedVariables false
set_option linter.unusedSimpArgs false
theorem ow_app (cs : List ConD) (r : List ConD) (i : Nat) : ∀ k, k ≤ cs.length → owN (cs ++ r) k i = owN cs k i
  | 0, _ => rfl
  | k + 1, h => by
    have ih := ow_app cs r i k (by omega)
    have e : (cs ++ r).getD k default = cs.getD k default := by
      rw [List.getD_eq_getElem?_getD, List.getElem?_append_left (by omega), ← List.getD_eq_getElem?_getD]
    simp only [owN]
    rw [ih, e]
theorem ow_snoc (cs : List ConD) (c : ConD) (i : Nat) : owN (cs ++ [c]) (cs ++ [c]).length i = owN cs cs.length i - (if c.sh = (i : Int) then c.n else 0) + (if c.lg = (i : Int) then c.n else 0) := by
  rw [List.length_append, List.length_singleton]
  simp only [owN]
  have e : (cs ++ [c]).getD cs.length default = c := by simp [List.getD_eq_getElem?_getD]
  rw [e, ow_app cs [c] i cs.length (Nat.le_refl _)]
/-- with a contract more; with one in the other direction too -/
abbrev oneM (m : MktD) (c : ConD) : MktD := ⟨m.ex, m.hou, m.con ++ [c]⟩
abbrev twoM (m : MktD) (c : ConD) : MktD := ⟨m.ex, m.hou, m.con ++ [c] ++ [⟨c.lg, c.sh, c.n⟩]⟩
theorem two_owed (m : MktD) (c : ConD) : owedN (twoM m c) = owedN m := by
  funext i
  show owN (m.con ++ [c] ++ [(⟨c.lg, c.sh, c.n⟩ : ConD)]) (m.con ++ [c] ++ [(⟨c.lg, c.sh, c.n⟩ : ConD)]).length i = owN m.con m.con.length i
  rw [ow_snoc, ow_snoc]
  show owN m.con m.con.length i - _ + _ - (if c.lg = (i : Int) then c.n else 0) + (if c.sh = (i : Int) then c.n else 0) = _
  omega
theorem bnd_owed {m x : MktD} (h1 : x.ex = m.ex) (h2 : x.hou = m.hou) (h3 : owedN x = owedN m) : bndN x = bndN m := by
  unfold bndN lowN highN
  rw [h1, h2, h3]
theorem two_bnd (m : MktD) (c : ConD) : bndN (twoM m c) = bndN m := bnd_owed rfl rfl (two_owed m c)
theorem two_keep (m : MktD) (c : ConD) (l : List Int) : bndN (keepM (twoM m c) l) = bndN (keepM m l) := bnd_owed rfl rfl (two_owed m c)
theorem two_ess (m : MktD) (c : ConD) (f : Int × Int → Int) : ∀ k, essL (twoM m c) f k = essL m f k
  | 0 => rfl
  | k + 1 => by
    simp only [essL]
    rw [two_ess m c f k, two_keep]
/-- what is valid of two more contracts -/
structure TwoOk (m : MktD) (c : ConD) : Prop where
  len : m.con.length + 2 ≤ 8
  sh : 0 ≤ c.sh ∧ c.sh < m.hou.length
  lg : 0 ≤ c.lg ∧ c.lg < m.hou.length
  ne : c.sh ≠ c.lg
  n : 1 ≤ c.n ∧ c.n ≤ 200
theorem two_ok {m : MktD} {c : ConD} (h : faultN (twoM m c) = 0) : TwoOk m c := by
  have hv := vmkt h
  have h1 := hv.clen
  have h2 : (twoM m c).con.length = m.con.length + 2 := by simp
  have h3 := hv.con m.con.length (by omega)
  have e : (twoM m c).con.getD m.con.length default = c := by
    show (m.con ++ [c] ++ [(⟨c.lg, c.sh, c.n⟩ : ConD)]).getD m.con.length default = c
    simp [List.getD_eq_getElem?_getD]
  rw [e] at h3
  exact ⟨by omega, h3.1, h3.2.1, h3.2.2.1, h3.2.2.2⟩
theorem one_fault {m : MktD} {c : ConD} (hm : faultN m = 0) (h : faultN (twoM m c) = 0) : faultN (oneM m c) = 0 := by
  have hk := two_ok h
  have hv := vmkt hm
  have h0 := hv.len
  have hp := hv.pos
  unfold faultN at hm ⊢
  split at hm
  · cases hm
  split at hm
  · rename_i h1 h2
    have hl : (oneM m c).con.length = m.con.length + 1 := by simp
    have h8 := hk.len
    have hall : (m.con ++ [c]).all (conB m.hou.length) = true := by
      rw [List.all_append, h2.2.2, Bool.true_and]
      simp only [List.all_cons, List.all_nil, Bool.and_true, conB, Bool.and_eq_true, inB_iff, decide_eq_true_eq]
      have a := hk.sh
      have b := hk.lg
      exact ⟨by omega, by omega, hk.ne, hk.n⟩
    have hl8 : ¬ (6 < m.hou.length ∨ 8 < (oneM m c).con.length) := by omega
    rw [if_neg hl8, if_pos ⟨h2.1, h2.2.1, hall⟩]
  · cases hm
theorem one_truth (m : MktD) (c : ConD) (t : List Int) : truthB (oneM m c) t = truthB m t := by
  rw [Bool.eq_iff_iff, truth_iff, truth_iff, left_sum, left_sum]
/-- where both of its houses sell, a contract changes no shortage -/
theorem one_short {m : MktD} {c : ConD} (hk : TwoOk m c) (h1 : (m.hou.getD c.sh.toNat default).sells = true) (h2 : (m.hou.getD c.lg.toNat default).sells = true) {t : List Int} (ht : t.length = m.hou.length) : shortT (oneM m c) t = shortT m t := by
  obtain ⟨a, ha⟩ : ∃ a : Nat, c.sh = a := ⟨c.sh.toNat, by have := hk.sh; omega⟩
  obtain ⟨b, hb⟩ : ∃ b : Nat, c.lg = b := ⟨c.lg.toNat, by have := hk.lg; omega⟩
  have hal : a < m.hou.length := by have := hk.sh; omega
  have hbl : b < m.hou.length := by have := hk.lg; omega
  have hab : a ≠ b := fun e => hk.ne (by rw [ha, hb, e])
  rw [ha] at h1
  rw [hb] at h2
  have h1' : (m.hou.getD a default).sells = true := h1
  have h2' : (m.hou.getD b default).sells = true := h2
  rw [short_sum ht, short_sum (m := oneM m c) ht]
  have e : sumF (fun k => shortF ((oneM m c).hou.getD k default) (posN (oneM m c) t k)) m.hou.length = sumF (fun k => (shortF (m.hou.getD k default) (posN m t k) + (if (a : Int) = (k : Int) then c.n else 0)) - (if (b : Int) = (k : Int) then c.n else 0)) m.hou.length := sumF_congr fun k hk2 => by
    have hp : posN (oneM m c) t k = posN m t k - (if (a : Int) = (k : Int) then c.n else 0) + (if (b : Int) = (k : Int) then c.n else 0) := by
      show owN (m.con ++ [c]) (m.con ++ [c]).length k + t.getD k 0 = owN m.con m.con.length k + t.getD k 0 - _ + _
      rw [ow_snoc, ha, hb]
      omega
    show shortF (m.hou.getD k default) (posN (oneM m c) t k) = _
    rw [hp]
    generalize posN m t k = p
    by_cases ea : a = k
    · subst ea
      rw [if_pos rfl, if_neg (by omega)]
      unfold shortF spareN needN
      rw [h1', if_pos rfl, if_pos rfl]
      omega
    · rw [if_neg (show ¬ (a : Int) = (k : Int) by omega)]
      by_cases eb : b = k
      · subst eb
        rw [if_pos rfl]
        unfold shortF spareN needN
        rw [h2', if_pos rfl, if_pos rfl]
        omega
      · rw [if_neg (show ¬ (b : Int) = (k : Int) by omega)]
        have : p - 0 + 0 = p := by omega
        rw [this]
        omega
  show sumF _ m.hou.length = _
  rw [e, sumF_sub (fun k => shortF (m.hou.getD k default) (posN m t k) + (if (a : Int) = (k : Int) then c.n else 0)), sumF_add (fun k => shortF (m.hou.getD k default) (posN m t k)), sumF_one, sumF_one, if_pos hal, if_pos hbl]
  omega
theorem one_bnd {m : MktD} {c : ConD} (hm : faultN m = 0) (h : faultN (twoM m c) = 0) (hp : possB m = true) (h1 : (m.hou.getD c.sh.toNat default).sells = true) (h2 : (m.hou.getD c.lg.toNat default).sells = true) : lowN (oneM m c) = lowN m ∧ highN (oneM m c) = highN m := by
  have hk := two_ok h
  have hv := vmkt hm
  have hv1 := vmkt (one_fault hm h)
  have hp1 : possB (oneM m c) = true := hp
  have hs : ∀ t, truthB m t = true → shortT (oneM m c) t = shortT m t := fun t ht => one_short hk h1 h2 (truth_iff.1 ht).1
  have a1 := low_mono hv hv1 (fun t ht => ⟨by rw [← one_truth m c]; exact ht, by rw [hs t (by rw [← one_truth m c]; exact ht)]; exact Int.le_refl _⟩) (poss_ne hv1 hp1)
  have a2 := low_mono hv1 hv (fun t ht => ⟨by rw [one_truth]; exact ht, by rw [hs t ht]; exact Int.le_refl _⟩) (poss_ne hv hp)
  have b1 := high_mono hv hv1 (fun t ht => ⟨by rw [one_truth]; exact ht, by rw [hs t ht]; exact Int.le_refl _⟩) (poss_ne hv hp)
  have b2 := high_mono hv1 hv (fun t ht => ⟨by rw [← one_truth m c]; exact ht, by rw [hs t (by rw [← one_truth m c]; exact ht)]; exact Int.le_refl _⟩) (poss_ne hv1 hp1)
  exact ⟨by omega, by omega⟩
end Go.Proofs.Ytallicfckbdeaaa
