/- Fair sales: what is filled, and that nobody is left who could trade. Plain. -/
import Derived.Test.YteaoclpikdmkiaaOs
namespace Go.Proofs.Yteaoclpikdmkiaa
open Go Go.RowKit Go.Tl
set_option linter.unusedVariables false
set_option linter.unusedSimpArgs false
theorem filR_app (l m : List SaleD) (i : Int) : ∀ k, k ≤ l.length → filR (l ++ m) i k = filR l i k
  | 0, _ => rfl
  | k + 1, hk => by
    have ih := filR_app l m i k (by omega)
    have e : (l ++ m).getD k default = l.getD k default := by
      rw [List.getD_eq_getElem?_getD, List.getElem?_append_left (by omega), ← List.getD_eq_getElem?_getD]
    simp only [filR]
    rw [e, ih]
/-- what sales fill of an order -/
abbrev filA (l : List SaleD) (i : Int) : Int := (filR l i l.length).1
theorem fil_snoc (l : List SaleD) (s : SaleD) (i : Int) : filA (l ++ [s]) i = filA l i + if s.buyer = i ∨ s.seller = i then s.num else 0 := by
  unfold filA
  rw [List.length_append, List.length_singleton]
  simp only [filR]
  have e : (l ++ [s]).getD l.length default = s := by simp [List.getD_eq_getElem?_getD]
  rw [e, filR_app l [s] i l.length (Nat.le_refl _)]
  split <;> simp
theorem sale_ends (p : PostD) (o : OrdD) (i k : Nat) (n : Int) (q : Int) : ((saleN p o i k n).buyer = q ∨ (saleN p o i k n).seller = q) ↔ ((i : Int) = q ∨ (k : Int) = q) := by
  unfold saleN
  split
  · exact Iff.rfl
  · exact Or.comm
theorem sale_num (p : PostD) (o : OrdD) (i k : Nat) (n : Int) : (saleN p o i k n).num = n := by
  unfold saleN
  split <;> rfl
theorem rest_no {p : PostD} {left : Nat → Int} {o : OrdD} {came : List Int} (hc : ∀ x ∈ came, 0 ≤ x) : ∀ k, k ≤ came.length → restN p left o came k < 0 → ∀ m, m < k → ¬ (0 < left (came.getD m 0).toNat ∧ meetsB o (oAt p (came.getD m 0).toNat) = true)
  | 0, _, _, m, hm => absurd hm (Nat.not_lt_zero _)
  | k + 1, hk, h, m, hm => by
    simp only [restN] at h
    have hk0 := hc _ (getD_mem (d := (0 : Int)) (show k < came.length by omega))
    split at h
    · omega
    · rename_i hn
      by_cases e : m = k
      · subst e
        intro ⟨h1, h2⟩
        refine hn ?_
        rw [decide_eq_true h1, h2, decide_eq_true h]
        rfl
      · exact rest_no hc k (by omega) h m (by omega)
/-- how many orders have something left -/
def posC (L : Nat → Int) : Nat → Nat
  | 0 => 0
  | k + 1 => posC L k + if 0 < L k then 1 else 0
theorem posC_le {L L' : Nat → Int} : ∀ n, (∀ q, q < n → 0 < L' q → 0 < L q) → posC L' n ≤ posC L n
  | 0, _ => Nat.le_refl _
  | n + 1, h => by
    have ih := posC_le n (fun q hq => h q (by omega))
    have hn := h n (Nat.lt_succ_self n)
    simp only [posC]
    by_cases c : 0 < L' n
    · rw [if_pos c, if_pos (hn c)]; omega
    · rw [if_neg c]; omega
theorem posC_lt {L L' : Nat → Int} {j : Nat} : ∀ n, (∀ q, q < n → 0 < L' q → 0 < L q) → j < n → 0 < L j → ¬ 0 < L' j → posC L' n + 1 ≤ posC L n
  | 0, _, hj, _, _ => absurd hj (Nat.not_lt_zero _)
  | n + 1, h, hj, h1, h2 => by
    simp only [posC]
    by_cases e : j = n
    · subst e
      have := posC_le j (fun q hq => h q (by omega))
      rw [if_neg h2, if_pos h1]; omega
    · have ih := posC_lt n (fun q hq => h q (by omega)) (by omega) h1 h2
      have hn := h n (Nat.lt_succ_self n)
      by_cases c : 0 < L' n
      · rw [if_pos c, if_pos (hn c)]; omega
      · rw [if_neg c]; omega
theorem posC_set {L : Nat → Int} {i : Nat} {x : Int} : ∀ n, posC (fun q => if q = i then x else L q) n ≤ posC L n + 1
  | 0 => by simp [posC]
  | n + 1 => by
    simp only [posC]
    by_cases e : n = i
    · subst e
      have : posC (fun q => if q = n then x else L q) n ≤ posC L n := posC_le n (fun q hq h => by
        have h' : 0 < (if q = n then x else L q) := h
        rwa [if_neg (by omega)] at h')
      split <;> split <;> omega
    · have ih := posC_set (L := L) (i := i) (x := x) n
      have e2 : (if n = i then x else L n) = L n := if_neg e
      simp only [e2]
      omega
structure MInv (p : PostD) (i : Nat) (came : List Int) (s R : (Nat → Int) × List SaleD) : Prop where
  sum : ∀ q : Nat, q < 6 → filA R.2 q + R.1 q = filA s.2 q + s.1 q
  le : ∀ q, q < 6 → q ≠ i → R.1 q ≤ s.1 q
  pos : ∀ q, q < 6 → 0 ≤ R.1 q
  stop : ¬ 0 < R.1 i ∨ restN p R.1 (oAt p i) came came.length < 0
  cnt : R.2.length + posC R.1 6 ≤ s.2.length + posC s.1 6
theorem match_inv {p : PostD} (hv : VPost p) {i : Nat} {came : List Int} (hi : i < p.ords.length) (hni : (i : Int) ∉ came) (hc : ∀ x ∈ came, 0 ≤ x ∧ x < p.ords.length) : ∀ (f : Nat) (s : (Nat → Int) × List SaleD), (∀ q, q < 6 → 0 ≤ s.1 q ∧ s.1 q ≤ 20) → s.1 i ≤ f → MInv p i came s (matchN p (oAt p i) i came f s)
  | 0, s, h, hf => ⟨fun _ _ => rfl, fun _ _ _ => Int.le_refl _, fun q hq => (h q hq).1, .inl (by show ¬ 0 < s.1 i; omega), Nat.le_refl _⟩
  | f + 1, s, h, hf => by
    have hlen := hv.len
    simp only [matchN]
    by_cases h1 : 0 < s.1 i
    case neg =>
      rw [if_neg h1]
      exact ⟨fun _ _ => rfl, fun _ _ _ => Int.le_refl _, fun q hq => (h q hq).1, .inl h1, Nat.le_refl _⟩
    rw [if_pos h1]
    by_cases h2 : restN p s.1 (oAt p i) came came.length < 0
    · rw [if_pos h2]
      exact ⟨fun _ _ => rfl, fun _ _ _ => Int.le_refl _, fun q hq => (h q hq).1, .inr h2, Nat.le_refl _⟩
    rw [if_neg h2]
    have hri := rest_in (p := p) (left := s.1) (o := oAt p i) (n := p.ords.length) (by omega) hc came.length (Nat.le_refl _)
    have hrp := rest_mem (p := p) (left := s.1) (o := oAt p i) (came := came) came.length (Nat.le_refl _)
    generalize restN p s.1 (oAt p i) came came.length = k at *
    obtain ⟨k, rfl⟩ : ∃ q : Nat, k = q := ⟨k.toNat, by omega⟩
    rw [Int.toNat_natCast] at hrp ⊢
    obtain ⟨hkm, hk0⟩ := hrp.resolve_left (by omega)
    have hki : k ≠ i := fun e => hni (by rw [← e]; exact hkm)
    have hk6 : k < 6 := by omega
    have hi6 : i < 6 := by omega
    have hk := h k hk6
    have hi' := h i hi6
    obtain ⟨n, hn⟩ : ∃ n, min (s.1 i) (s.1 k) = n := ⟨_, rfl⟩
    have hn1 : 1 ≤ n ∧ n ≤ s.1 i ∧ n ≤ s.1 k ∧ (n = s.1 i ∨ n = s.1 k) := by omega
    rw [hn]
    have htk : ∀ q, takeN s.1 i k n q = if q = k then s.1 k - n else if q = i then s.1 i - n else s.1 q := fun _ => rfl
    have hti : takeN s.1 i k n i = s.1 i - n := by rw [htk, if_neg (fun e => hki e.symm), if_pos rfl]
    have ih := match_inv hv hi hni hc f (takeN s.1 i k n, s.2 ++ [saleN p (oAt p i) i k n]) (fun q hq => by
      have := h q hq
      show 0 ≤ takeN s.1 i k n q ∧ takeN s.1 i k n q ≤ 20
      rw [htk]
      split
      · omega
      · split <;> omega) (by show takeN s.1 i k n i ≤ f; rw [hti]; omega)
    refine ⟨fun q hq => ?_, fun q hq hqi => ?_, ih.pos, ih.stop, ?_⟩
    · rw [ih.sum q hq]
      show filA (s.2 ++ [saleN p (oAt p i) i k n]) q + takeN s.1 i k n q = _
      rw [fil_snoc, sale_num, htk]
      by_cases e1 : q = k
      · subst e1
        rw [if_pos ((sale_ends p (oAt p i) i q n q).2 (.inr rfl)), if_pos rfl]; omega
      · rw [if_neg e1]
        by_cases e2 : q = i
        · subst e2
          rw [if_pos ((sale_ends p (oAt p q) q k n q).2 (.inl rfl)), if_pos rfl]; omega
        · rw [if_neg e2, if_neg (fun h => by rcases (sale_ends p (oAt p i) i k n q).1 h with h | h <;> omega)]; omega
    · refine Int.le_trans (ih.le q hq hqi) ?_
      show takeN s.1 i k n q ≤ _
      rw [htk]
      by_cases e1 : q = k
      · subst e1; rw [if_pos rfl]; omega
      · rw [if_neg e1, if_neg hqi]; exact Int.le_refl _
    · refine Nat.le_trans ih.cnt ?_
      show (s.2 ++ [saleN p (oAt p i) i k n]).length + posC (takeN s.1 i k n) 6 ≤ _
      rw [List.length_append, List.length_singleton]
      have hsub : ∀ q, q < 6 → 0 < takeN s.1 i k n q → 0 < s.1 q := fun q hq hp => by
        rw [htk] at hp
        by_cases e1 : q = k
        · subst e1; exact hk0
        · rw [if_neg e1] at hp
          by_cases e2 : q = i
          · subst e2; exact h1
          · rwa [if_neg e2] at hp
      rcases hn1.2.2.2 with e | e
      · have := posC_lt (j := i) 6 hsub hi6 h1 (by rw [hti]; omega)
        omega
      · have := posC_lt (j := k) 6 hsub hk6 hk0 (by rw [htk, if_pos rfl]; omega)
        omega
/-- what holds of a floor at all times -/
structure FairI (p : PostD) (F : FloD) : Prop where
  sum : ∀ q : Nat, q < 6 → filA F.log q + F.left q = if (q : Int) ∈ F.came then (oAt p q).num else 0
  none : ∀ q : Nat, q < 6 → (q : Int) ∉ F.came → F.left q = 0
  free : ∀ a b : Nat, (a : Int) ∈ F.came → (b : Int) ∈ F.came → 0 < F.left a → 0 < F.left b → meetsB (oAt p a) (oAt p b) = false
  cnt : F.log.length + posC F.left 6 ≤ F.came.length
theorem meets_symm {o x : OrdD} : meetsB o x = meetsB x o := by
  rw [Bool.eq_iff_iff, meets_iff, meets_iff]
  constructor
  · rintro (⟨h1, h2, h3⟩ | ⟨h1, h2, h3⟩)
    · exact .inr ⟨h2, h1, h3⟩
    · exact .inl ⟨h2, h1, h3⟩
  · rintro (⟨h1, h2, h3⟩ | ⟨h1, h2, h3⟩)
    · exact .inr ⟨h2, h1, h3⟩
    · exact .inl ⟨h2, h1, h3⟩
theorem fair0 (p : PostD) : FairI p flo0 := ⟨fun q _ => by rw [if_neg (fun h => (nomatch h))]; rfl, fun _ _ _ => rfl, fun a b h => (nomatch h), Nat.le_refl _⟩
theorem meets_self (o : OrdD) : meetsB o o = false := by
  cases c : meetsB o o
  · rfl
  · rcases meets_iff.1 c with ⟨h1, h2, _⟩ | ⟨h1, h2, _⟩ <;> rw [h1] at h2 <;> cases h2
theorem fair_come {p : PostD} (hv : VPost p) {F : FloD} {i : Nat} (hok : FOk p F) (hi : i < p.ords.length) (hni : (i : Int) ∉ F.came) (h : FairI p F) : FairI p (comeN p F i) := by
  have hlen := hv.len
  have hi6 : i < 6 := by omega
  have hnum : 1 ≤ (oAt p i).num ∧ (oAt p i).num ≤ 20 := hv.num i hi
  have hM := match_inv hv hi hni hok.came 20 (fun q => if q = i then (oAt p i).num else F.left q, F.log) (fun q hq => by
    have := hok.left q hq
    show 0 ≤ (if q = i then (oAt p i).num else F.left q) ∧ (if q = i then (oAt p i).num else F.left q) ≤ 20
    split <;> omega) (by show (if i = i then (oAt p i).num else F.left i) ≤ _; rw [if_pos rfl]; exact hnum.2)
  have hcN : comeN p F i = ⟨(matchN p (oAt p i) i F.came 20 (fun q => if q = i then (oAt p i).num else F.left q, F.log)).1, F.came ++ [(i : Int)], (matchN p (oAt p i) i F.came 20 (fun q => if q = i then (oAt p i).num else F.left q, F.log)).2⟩ := rfl
  rw [hcN]
  generalize matchN p (oAt p i) i F.came 20 (fun q => if q = i then (oAt p i).num else F.left q, F.log) = R at *
  have hmem : ∀ q : Nat, (q : Int) ∈ F.came ++ [(i : Int)] ↔ (q : Int) ∈ F.came ∨ q = i := fun q => by
    rw [List.mem_append, List.mem_singleton]
    constructor
    · rintro (h | h)
      · exact .inl h
      · exact .inr (by omega)
    · rintro (h | h)
      · exact .inl h
      · exact .inr (by omega)
  refine ⟨fun q hq => ?_, fun q hq hqc => ?_, fun a b ha hb hla hlb => ?_, ?_⟩
  · show filA R.2 q + R.1 q = _
    rw [hM.sum q hq]
    show filA F.log q + (if q = i then (oAt p i).num else F.left q) = _
    have hs := h.sum q hq
    by_cases e : q = i
    · subst e
      rw [if_neg hni] at hs
      have h0 := h.none q hq hni
      rw [if_pos rfl, if_pos ((hmem q).2 (.inr rfl))]
      omega
    · rw [if_neg e, hs]
      by_cases c : (q : Int) ∈ F.came
      · rw [if_pos c, if_pos ((hmem q).2 (.inl c))]
      · rw [if_neg c, if_neg (fun h => by rcases (hmem q).1 h with h | h; exact c h; exact e h)]
  · have hq1 : (q : Int) ∉ F.came := fun h => hqc ((hmem q).2 (.inl h))
    have hqi : q ≠ i := fun h => hqc ((hmem q).2 (.inr h))
    have h1 := hM.le q hq hqi
    have h2 := hM.pos q hq
    have h3 : (if q = i then (oAt p i).num else F.left q) = F.left q := if_neg hqi
    have h4 := h.none q hq hq1
    have h5 : R.1 q ≤ (if q = i then (oAt p i).num else F.left q) := h1
    show R.1 q = 0
    omega
  · have old : ∀ q : Nat, (q : Int) ∈ F.came → 0 < R.1 q → 0 < F.left q := fun q hq hl => by
      have hqn := hok.came _ hq
      have hqi : q ≠ i := fun e => hni (by rw [← e]; exact hq)
      have h1 : R.1 q ≤ (if q = i then (oAt p i).num else F.left q) := hM.le q (by omega) hqi
      rw [if_neg hqi] at h1
      omega
    have new : ∀ q : Nat, (q : Int) ∈ F.came → 0 < R.1 q → 0 < R.1 i → meetsB (oAt p i) (oAt p q) = false := fun q hq hl hli => by
      rcases hM.stop with hs | hs
      · exact absurd hli hs
      · obtain ⟨m, hm, e⟩ := List.mem_iff_getElem.1 hq
        have hno := rest_no (fun x hx => (hok.came x hx).1) F.came.length (Nat.le_refl _) hs m hm
        have e2 : (F.came.getD m 0).toNat = q := by
          have : F.came.getD m 0 = (q : Int) := by simp [List.getD_eq_getElem?_getD, hm, e]
          rw [this, Int.toNat_natCast]
        rw [e2] at hno
        cases c : meetsB (oAt p i) (oAt p q)
        · rfl
        · exact absurd ⟨hl, c⟩ hno
    rcases (hmem a).1 ha with ha' | ea
    · rcases (hmem b).1 hb with hb' | eb
      · exact h.free a b ha' hb' (old a ha' hla) (old b hb' hlb)
      · subst eb; rw [meets_symm]; exact new a ha' hla hlb
    · rcases (hmem b).1 hb with hb' | eb
      · subst ea; exact new b hb' hlb hla
      · subst ea; subst eb; exact meets_self _
  · show R.2.length + posC R.1 6 ≤ (F.came ++ [(i : Int)]).length
    have h1 := hM.cnt
    have h2 : posC (fun q => if q = i then (oAt p i).num else F.left q) 6 ≤ posC F.left 6 + 1 := posC_set 6
    have h3 := h.cnt
    have h4 : R.2.length + posC R.1 6 ≤ F.log.length + posC (fun q => if q = i then (oAt p i).num else F.left q) 6 := h1
    rw [List.length_append, List.length_singleton]
    omega
theorem run_fair {p : PostD} (hv : VPost p) {l : List Nat} (hnd : l.Nodup) (hlt : ∀ i ∈ l, i < p.ords.length) : FairI p (runN p l) :=
  run_ind hv (Q := FairI p) (fair0 p) (fun F i h1 h2 h3 h4 => fair_come hv h1 h2 h3 h4) hnd hlt
/-- the sales of a truth are fair -/
structure FairT (p : PostD) (l : List SaleD) : Prop where
  len : l.length ≤ 6
  le : ∀ q : Nat, q < p.ords.length → 0 ≤ filA l q ∧ filA l q ≤ (oAt p q).num
  free : ∀ a b : Nat, a < p.ords.length → b < p.ords.length → filA l a < (oAt p a).num → filA l b < (oAt p b).num → meetsB (oAt p a) (oAt p b) = false
theorem play_fair {p : PostD} (hv : VPost p) {t : List Int} (ht : truthB p t = true) : FairT p (playT p t) := by
  have hnd := srt_nodup (comes_srt t)
  have hlt := comes_lt ht
  have hF := run_fair hv hnd hlt
  have hok := fok_run hv hnd hlt
  have hlen := hv.len
  have hcl := fok_len hv hok
  have hin : ∀ q : Nat, q < p.ords.length → (q : Int) ∈ (runN p (comesN t)).came := fun q hq => by
    rw [run_came]
    refine List.mem_map.2 ⟨q, ?_, rfl⟩
    obtain ⟨h1, h2⟩ := truth_iff.1 ht
    have h3 := inB_iff.1 (h2 q (by omega))
    have h4 := hv.min q hq
    exact comes_mem.2 ⟨by omega, by omega, by omega⟩
  have hs : ∀ q : Nat, q < p.ords.length → filA (playT p t) q + (runN p (comesN t)).left q = (oAt p q).num := fun q hq => by
    have := hF.sum q (by omega)
    rw [if_pos (hin q hq)] at this
    exact this
  refine ⟨?_, fun q hq => ?_, fun a b ha hb hla hlb => ?_⟩
  · have := hF.cnt
    show (runN p (comesN t)).log.length ≤ 6
    omega
  · have h1 := hs q hq
    have h2 := hok.left q (by omega)
    have hnm : ∀ s ∈ playT p t, NumOk s := fun s h => sok_num hv (play_sok hv ht s h)
    have h3 := filR_bd hnm q (playT p t).length (Nat.le_refl _)
    exact ⟨h3.1, by omega⟩
  · have h1 := hs a ha
    have h2 := hs b hb
    exact hF.free a b (hin a ha) (hin b hb) (by omega) (by omega)
end Go.Proofs.Yteaoclpikdmkiaa
