/- Orders of one side that come first are met by price and time: plain. -/
import Derived.Test.YteaoclpikdmkiaaGQd
import Derived.Test.YteaoclpikdmkiaaOt
namespace Go.Proofs.Yteaoclpikdmkiaa
open Go Go.RowKit Go.Tl
set_option linter.unusedVariables false
set_option linter.unusedSimpArgs false
/-- the order that is met first is the best one, and of these the first that came -/
theorem rest_best {p : PostD} {left : Nat → Int} {o : OrdD} {came : List Int} (hc : ∀ x ∈ came, 0 ≤ x) : ∀ k, k ≤ came.length → 0 ≤ restN p left o came k → ∃ r, r < k ∧ came.getD r 0 = restN p left o came k ∧ ∀ m, m < k → 0 < left (came.getD m 0).toNat → meetsB o (oAt p (came.getD m 0).toNat) = true →
    betterB (oAt p (came.getD m 0).toNat) (oAt p (restN p left o came k).toNat) = false ∧ ((oAt p (came.getD m 0).toNat).lim = (oAt p (restN p left o came k).toNat).lim → r ≤ m)
  | 0, _, h => by have : (0 : Int) ≤ -1 := h; omega
  | k + 1, hk, h => by
    have side : ∀ {i j : Nat}, meetsB o (oAt p i) = true → meetsB o (oAt p j) = true → (oAt p i).buy = (oAt p j).buy := fun {i j} h1 h2 => by
      rcases meets_iff.1 h1 with ⟨a1, a2, _⟩ | ⟨a1, a2, _⟩ <;> rcases meets_iff.1 h2 with ⟨b1, b2, _⟩ | ⟨b1, b2, _⟩
      · rw [a2, b2]
      · rw [a1] at b1; cases b1
      · rw [a1] at b1; cases b1
      · rw [a2, b2]
    simp only [restN] at h ⊢
    by_cases c : (decide (0 < left (came.getD k 0).toNat) && (meetsB o (oAt p (came.getD k 0).toNat) && (decide (restN p left o came k < 0) || betterB (oAt p (came.getD k 0).toNat) (oAt p (restN p left o came k).toNat)))) = true
    · rw [if_pos c] at h ⊢
      simp only [Bool.and_eq_true, Bool.or_eq_true, decide_eq_true_eq] at c
      obtain ⟨c1, c2, c3⟩ := c
      have hirr : ∀ x : OrdD, betterB x x = false := fun x => by
        unfold betterB
        split <;> exact decide_eq_false (Int.lt_irrefl _)
      refine ⟨k, Nat.lt_succ_self k, rfl, fun m hm h1 h2 => ?_⟩
      by_cases e : m = k
      · subst e
        exact ⟨hirr _, fun _ => Nat.le_refl _⟩
      by_cases e2 : restN p left o came k < 0
      · exact absurd ⟨h1, h2⟩ (rest_no hc k (by omega) e2 m (by omega))
      · obtain ⟨r, hr, er, hb⟩ := rest_best hc k (by omega) (Int.not_lt.1 e2)
        obtain ⟨b1, b2⟩ := hb m (by omega) h1 h2
        have c3' := c3.resolve_left e2
        have hs1 := side c2 (rest_meets k (Int.not_lt.1 e2))
        have hs2 := side h2 (rest_meets k (Int.not_lt.1 e2))
        revert b1 c3'
        unfold betterB
        rw [hs1, hs2]
        cases (oAt p (restN p left o came k).toNat).buy
        · simp only [Bool.false_eq_true, if_false, decide_eq_true_eq, decide_eq_false_iff_not]
          intro c3' b1
          exact ⟨by omega, fun h => by omega⟩
        · simp only [if_true, decide_eq_true_eq, decide_eq_false_iff_not]
          intro c3' b1
          exact ⟨by omega, fun h => by omega⟩
    · rw [if_neg c] at h ⊢
      obtain ⟨r, hr, er, hb⟩ := rest_best hc k (by omega) h
      refine ⟨r, by omega, er, fun m hm h1 h2 => ?_⟩
      by_cases e : m = k
      · subst e
        refine ⟨?_, fun _ => by omega⟩
        cases d : betterB (oAt p (came.getD m 0).toNat) (oAt p (restN p left o came m).toNat)
        · rfl
        · refine absurd ?_ c
          rw [decide_eq_true h1, h2, d, Bool.or_true]; rfl
      · exact hb m (by omega) h1 h2
/-- an order of a side comes before another one: its Limit is better, or it is the same and it came first -/
def Bef (p : PostD) (t : List Int) (k i : Nat) : Prop := betterB (oAt p k) (oAt p i) = true ∨ ((oAt p k).lim = (oAt p i).lim ∧ KB t k i)
/-- whoever comes after one that has something left has all left -/
def PInv (p : PostD) (t : List Int) (bs : Bool) (came : List Int) (left : Nat → Int) : Prop := ∀ i k : Nat, (i : Int) ∈ came → (k : Int) ∈ came → (oAt p i).buy = bs → (oAt p k).buy = bs → Bef p t k i → 0 < left k → left i = (oAt p i).num
theorem bef_meets {p : PostD} {t : List Int} {o : OrdD} {k i : Nat} (hb : (oAt p k).buy = (oAt p i).buy) (h : Bef p t k i) (hm : meetsB o (oAt p i) = true) : meetsB o (oAt p k) = true := by
  rw [meets_iff] at hm ⊢
  rw [hb]
  have h1 : ((oAt p i).buy = true → (oAt p i).lim ≤ (oAt p k).lim) ∧ ((oAt p i).buy = false → (oAt p k).lim ≤ (oAt p i).lim) := by
    rcases h with h | ⟨h, _⟩
    · unfold betterB at h
      rw [hb] at h
      cases c : (oAt p i).buy
      · rw [c] at h
        have : (oAt p k).lim < (oAt p i).lim := of_decide_eq_true h
        exact ⟨fun h => (nomatch h), fun _ => by omega⟩
      · rw [c] at h
        have : (oAt p i).lim < (oAt p k).lim := of_decide_eq_true h
        exact ⟨fun _ => by omega, fun h => (nomatch h)⟩
    · exact ⟨fun _ => by omega, fun _ => by omega⟩
  rcases hm with ⟨a1, a2, a3⟩ | ⟨a1, a2, a3⟩
  · exact .inl ⟨a1, a2, by have := h1.2 a2; omega⟩
  · exact .inr ⟨a1, a2, by have := h1.1 a2; omega⟩
theorem match_first {p : PostD} {t : List Int} {bs : Bool} {j : Nat} {l : List Nat} (hs : l.Pairwise (KB t)) (hj : j ∉ l) : ∀ (f : Nat) (s : (Nat → Int) × List SaleD), PInv p t bs (natsI l) s.1 → PInv p t bs (natsI l) (matchN p (oAt p j) j (natsI l) f s).1
  | 0, s, h => h
  | f + 1, s, h => by
    simp only [matchN]
    by_cases h1 : 0 < s.1 j
    case neg => rw [if_neg h1]; exact h
    rw [if_pos h1]
    by_cases h2 : restN p s.1 (oAt p j) (natsI l) (natsI l).length < 0
    · rw [if_pos h2]; exact h
    rw [if_neg h2]
    have hc : ∀ x ∈ natsI l, 0 ≤ x := fun x hx => by
      obtain ⟨i, _, rfl⟩ := List.mem_map.1 hx
      exact Int.natCast_nonneg i
    have hmem : ∀ q : Nat, (q : Int) ∈ natsI l ↔ q ∈ l := fun q => by
      constructor
      · intro h
        obtain ⟨i, hi, e⟩ := List.mem_map.1 h
        have e' : (i : Int) = (q : Int) := e
        obtain rfl : i = q := by omega
        exact hi
      · intro h; exact List.mem_map.2 ⟨q, h, rfl⟩
    have hget : ∀ m, m < l.length → (natsI l).getD m 0 = ((l.getD m 0 : Nat) : Int) := fun m hm => by
      unfold natsI
      simp [List.getD_eq_getElem?_getD, hm]
    obtain ⟨r, hr, er, hb⟩ := rest_best (p := p) (left := s.1) (o := oAt p j) hc (natsI l).length (Nat.le_refl _) (by omega)
    have hmt := rest_meets (p := p) (left := s.1) (o := oAt p j) (came := natsI l) (natsI l).length (by omega)
    have hrp := (rest_mem (p := p) (left := s.1) (o := oAt p j) (came := natsI l) (natsI l).length (Nat.le_refl _)).resolve_left (by omega)
    rw [natsI_len] at hr
    rw [hget r hr] at er
    rw [← er] at hb hmt hrp ⊢
    rw [Int.toNat_natCast] at hb hmt hrp ⊢
    generalize hq : l.getD r 0 = q at *
    have hqj : q ≠ j := fun e => hj (by rw [← e]; exact (hmem q).1 hrp.1)
    refine match_first hs hj f _ fun i k hi hk bi bk hbef hl => ?_
    have hij : i ≠ j := fun e => hj (by rw [← e]; exact (hmem i).1 hi)
    have hkj : k ≠ j := fun e => hj (by rw [← e]; exact (hmem k).1 hk)
    obtain ⟨n, hn⟩ : ∃ n, min (s.1 j) (s.1 q) = n := ⟨_, rfl⟩
    have hn0 : 0 ≤ n := by omega
    have htk : ∀ x, takeN s.1 j q n x = if x = q then s.1 q - n else if x = j then s.1 j - n else s.1 x := fun _ => rfl
    have hl' : 0 < takeN s.1 j q n k := by rw [← hn]; exact hl
    show takeN s.1 j q (min (s.1 j) (s.1 q)) i = _
    rw [hn, htk]
    rw [htk] at hl'
    have hk0 : 0 < s.1 k := by
      by_cases e : k = q
      · subst e; rw [if_pos rfl] at hl'; omega
      · rw [if_neg e, if_neg hkj] at hl'; exact hl'
    by_cases e : i = q
    · exfalso
      subst e
      obtain ⟨m, hm, em⟩ := List.mem_iff_getElem.1 ((hmem k).1 hk)
      have hgm : l.getD m 0 = k := by simp [List.getD_eq_getElem?_getD, hm, em]
      have h3 := hb m (by rw [natsI_len]; exact hm)
      rw [hget m hm, hgm, Int.toNat_natCast] at h3
      obtain ⟨h4, h5⟩ := h3 hk0 (bef_meets (by rw [bi, bk]) hbef hmt)
      rcases hbef with h6 | ⟨h6, h7⟩
      · rw [h6] at h4; cases h4
      · have h8 := h5 h6
        rw [List.pairwise_iff_getElem] at hs
        by_cases e2 : r = m
        · subst e2
          rw [hq] at hgm
          subst hgm
          exact kb_irr _ h7
        · have h9 := hs r m hr hm (by omega)
          have e3 : l[r] = i := by rw [← hq]; simp [List.getD_eq_getElem?_getD, hr]
          rw [em, e3] at h9
          exact kb_asym _ _ h9 h7
    · rw [if_neg e, if_neg hij]
      exact h i k hi hk bi bk hbef hk0
theorem first_run {p : PostD} {t : List Int} {bs : Bool} (hside : ∀ i j, i < p.ords.length → j < p.ords.length → (oAt p i).buy ≠ bs → (oAt p j).buy = bs → t.getD j 0 < t.getD i 0) : ∀ l : List Nat, l.Pairwise (KB t) → (∀ i ∈ l, i < p.ords.length) →
    ((∀ i ∈ l, (oAt p i).buy = bs) → ∀ i ∈ l, (runN p l).left i = (oAt p i).num) ∧ PInv p t bs (natsI l) (runN p l).left := fun l => by
  have key : ∀ r : List Nat, r.reverse.Pairwise (KB t) → (∀ i ∈ r.reverse, i < p.ords.length) → ((∀ i ∈ r.reverse, (oAt p i).buy = bs) → ∀ i ∈ r.reverse, (runN p r.reverse).left i = (oAt p i).num) ∧ PInv p t bs (natsI r.reverse) (runN p r.reverse).left := fun r => by
    induction r with
    | nil => intro _ _; exact ⟨fun _ i hi => (by cases hi), fun i k hi => (by cases hi)⟩
    | cons j r ih =>
      rw [List.reverse_cons]
      intro hs hlt
      obtain ⟨hs1, _, hs2⟩ := List.pairwise_append.1 hs
      obtain ⟨h1, h2⟩ := ih hs1 fun i hi => hlt i (List.mem_append_left _ hi)
      have hkj : ∀ i ∈ r.reverse, KB t i j := fun i hi => hs2 i hi j (by simp)
      have hj : j ∉ r.reverse := fun h => kb_irr _ (hkj j h)
      have hjn := hlt j (by simp)
      generalize r.reverse = l at *
      rw [run_snoc]
      have hcame : (runN p l).came = natsI l := run_came p l
      have hcN : (comeN p (runN p l) j).left = (matchN p (oAt p j) j (natsI l) 20 (fun q => if q = j then (oAt p j).num else (runN p l).left q, (runN p l).log)).1 := by
        rw [← hcame]; rfl
      rw [hcN]
      have hmem : ∀ q : Nat, (q : Int) ∈ natsI (l ++ [j]) ↔ q ∈ l ∨ q = j := fun q => by
        constructor
        · intro h
          obtain ⟨i, hi, e⟩ := List.mem_map.1 h
          have e' : (i : Int) = (q : Int) := e
          obtain rfl : i = q := by omega
          simpa using hi
        · intro h
          exact List.mem_map.2 ⟨q, by simpa using h, rfl⟩
      by_cases hb : (oAt p j).buy = bs
      · have hall : ∀ i ∈ l, (oAt p i).buy = bs := fun i hi => by
          refine Classical.byContradiction fun h => ?_
          have h3 := hside i j (hlt i (List.mem_append_left _ hi)) hjn h hb
          have h4 := hkj i hi
          unfold KB at h4
          omega
        have h3 := h1 hall
        have hrn : restN p (fun q => if q = j then (oAt p j).num else (runN p l).left q) (oAt p j) (natsI l) (natsI l).length < 0 := by
          refine Int.not_le.1 fun h => ?_
          have h4 := rest_meets (p := p) (natsI l).length h
          have h5 := (rest_mem (p := p) (left := fun q => if q = j then (oAt p j).num else (runN p l).left q) (o := oAt p j) (came := natsI l) (natsI l).length (Nat.le_refl _)).resolve_left (by omega)
          obtain ⟨i, hi, e⟩ := List.mem_map.1 h5.1
          have e' : (i : Int) = restN p (fun q => if q = j then (oAt p j).num else (runN p l).left q) (oAt p j) (natsI l) (natsI l).length := e
          rw [← e', Int.toNat_natCast] at h4
          have h6 := hall i hi
          rcases meets_iff.1 h4 with ⟨a1, a2, _⟩ | ⟨a1, a2, _⟩
          · rw [a2] at h6; rw [a1, ← h6] at hb; cases hb
          · rw [a2] at h6; rw [a1, ← h6] at hb; cases hb
        have hm : matchN p (oAt p j) j (natsI l) 20 (fun q => if q = j then (oAt p j).num else (runN p l).left q, (runN p l).log) = (fun q => if q = j then (oAt p j).num else (runN p l).left q, (runN p l).log) := by
          simp only [matchN]
          rw [if_pos hrn]
          exact ite_self _
        rw [hm]
        have hfin : ∀ i : Nat, i ∈ l ∨ i = j → (if i = j then (oAt p j).num else (runN p l).left i) = (oAt p i).num := fun i hi => by
          by_cases e : i = j
          · subst e; rw [if_pos rfl]
          · rw [if_neg e]; exact h3 i (hi.resolve_right e)
        exact ⟨fun _ i hi => hfin i (by simpa using hi), fun i k hi _ _ _ _ _ => hfin i ((hmem i).1 hi)⟩
      · refine ⟨fun h => absurd (h j (by simp)) hb, ?_⟩
        have h3 := match_first (p := p) (t := t) (bs := bs) hs1 hj 20 (fun q => if q = j then (oAt p j).num else (runN p l).left q, (runN p l).log) (fun i k hi hk bi bk hbef hl => by
          have hil : i ∈ l := by
            obtain ⟨i', hi', e⟩ := List.mem_map.1 hi
            have e' : (i' : Int) = (i : Int) := e
            obtain rfl : i' = i := by omega
            exact hi'
          have hkl : k ∈ l := by
            obtain ⟨i', hi', e⟩ := List.mem_map.1 hk
            have e' : (i' : Int) = (k : Int) := e
            obtain rfl : i' = k := by omega
            exact hi'
          have hij : i ≠ j := fun e => hj (e ▸ hil)
          have hkj' : k ≠ j := fun e => hj (e ▸ hkl)
          have hl' : 0 < (if k = j then (oAt p j).num else (runN p l).left k) := hl
          rw [if_neg hkj'] at hl'
          show (if i = j then (oAt p j).num else (runN p l).left i) = _
          rw [if_neg hij]
          exact h2 i k hi hk bi bk hbef hl')
        intro i k hi hk bi bk hbef hl
        have hi' := ((hmem i).1 hi).resolve_right fun e => hb (by rw [← e]; exact bi)
        have hk' := ((hmem k).1 hk).resolve_right fun e => hb (by rw [← e]; exact bk)
        exact h3 i k (List.mem_map.2 ⟨i, hi', rfl⟩) (List.mem_map.2 ⟨k, hk', rfl⟩) bi bk hbef hl
  intro h1 h2
  have := key l.reverse (by rwa [List.reverse_reverse]) (by rwa [List.reverse_reverse])
  rwa [List.reverse_reverse] at this
/-- what is filled is filled in the order of prices and times -/
theorem first_fin {p : PostD} (hv : VPost p) {t : List Int} {bs : Bool} (ht : truthB p t = true) (hside : ∀ i j, i < p.ords.length → j < p.ords.length → (oAt p i).buy ≠ bs → (oAt p j).buy = bs → t.getD j 0 < t.getD i 0) {i k : Nat} (hi : i < p.ords.length) (hk : k < p.ords.length) (bi : (oAt p i).buy = bs) (bk : (oAt p k).buy = bs) (hb : Bef p t k i) (hf : 0 < filA (playT p t) i) : filA (playT p t) k = (oAt p k).num := by
  have hnd := srt_nodup (comes_srt t)
  have hlt := comes_lt ht
  have hF := run_fair hv hnd hlt
  have hok := fok_run hv hnd hlt
  have hlen := hv.len
  have hin : ∀ q : Nat, q < p.ords.length → q ∈ comesN t := fun q hq => by
    obtain ⟨h1, h2⟩ := truth_iff.1 ht
    have h3 := inB_iff.1 (h2 q (by omega))
    have h4 := hv.min q hq
    exact comes_mem.2 ⟨by omega, by omega, by omega⟩
  have hs : ∀ q : Nat, q < p.ords.length → filA (playT p t) q + (runN p (comesN t)).left q = (oAt p q).num := fun q hq => by
    have := hF.sum q (by omega)
    rw [if_pos (by rw [run_came]; exact List.mem_map.2 ⟨q, hin q hq, rfl⟩)] at this
    exact this
  have h1 := (first_run hside (comesN t) (comes_srt t) hlt).2 i k (List.mem_map.2 ⟨i, hin i hi, rfl⟩) (List.mem_map.2 ⟨k, hin k hk, rfl⟩) bi bk hb
  have h2 := hs i hi
  have h3 := hs k hk
  have h4 := (hok.left k (by omega)).1
  by_cases c : 0 < (runN p (comesN t)).left k
  · have := h1 c; omega
  · omega
end Go.Proofs.Yteaoclpikdmkiaa
