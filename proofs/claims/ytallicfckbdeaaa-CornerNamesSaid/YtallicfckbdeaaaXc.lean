/- Settlements: what is one, that Settle's is one, and the cheapest: plain. -/
import Derived.Test.YtallicfckbdeaaaHl
import Derived.Test.YtallicfckbdeaaaXa
namespace Go.Proofs.Ytallicfckbdeaaa
open Go Go.RowKit Go.Tl
set_option linter.unusedVariables false
set_option linter.unusedSimpArgs false
/-- what is spare, and what is needed, after the first sales; their cost; the shares sold -/
def spK (m : MktD) (t : List Int) (l : List SalC) : Nat → Nat → Int
  | 0, i => spareN (m.hou.getD i default) (posN m t i)
  | k + 1, i => spK m t l k i - if (l.getD k default).fr = (i : Int) then (l.getD k default).sh else 0
def ndK (m : MktD) (t : List Int) (l : List SalC) : Nat → Nat → Int
  | 0, i => needN (posN m t i)
  | k + 1, i => ndK m t l k i - if (l.getD k default).to = (i : Int) then (l.getD k default).sh else 0
def coK (m : MktD) (l : List SalC) : Nat → Int
  | 0 => 0
  | k + 1 => coK m l k + (l.getD k default).sh * (m.hou.getD (l.getD k default).fr.toNat default).ask
def shK (l : List SalC) : Nat → Int
  | 0 => 0
  | k + 1 => shK l k + (l.getD k default).sh
/-- whether a sale can be made after those before it -/
def okS (m : MktD) (t : List Int) (l : List SalC) (k : Nat) : Bool := inB (l.getD k default).fr 0 ((m.hou.length : Int) - 1) && (inB (l.getD k default).to 0 ((m.hou.length : Int) - 1) && (decide ((l.getD k default).fr ≠ (l.getD k default).to) && inB (l.getD k default).sh 1 (spK m t l k (l.getD k default).fr.toNat)))
structure OkS (m : MktD) (t : List Int) (l : List SalC) (k : Nat) : Prop where
  fr : 0 ≤ (l.getD k default).fr ∧ (l.getD k default).fr < m.hou.length
  to : 0 ≤ (l.getD k default).to ∧ (l.getD k default).to < m.hou.length
  ne : (l.getD k default).fr ≠ (l.getD k default).to
  sh : 1 ≤ (l.getD k default).sh ∧ (l.getD k default).sh ≤ spK m t l k (l.getD k default).fr.toNat
theorem okS_iff {m : MktD} {t : List Int} {l : List SalC} {k : Nat} : okS m t l k = true ↔ OkS m t l k := by
  unfold okS
  simp only [Bool.and_eq_true, inB_iff, decide_eq_true_eq]
  exact ⟨fun ⟨h1, h2, h3, h4⟩ => ⟨by omega, by omega, h3, h4⟩, fun h => ⟨by have := h.fr; omega, by have := h.to; omega, h.ne, h.sh⟩⟩
/-- whether sales are a settlement of at most a cost -/
def setB (m : MktD) (t : List Int) (l : List SalC) (cost : Int) : Bool := ((List.range l.length).all fun k => okS m t l k) && (((List.range m.hou.length).all fun i => decide (ndK m t l l.length i = 0)) && decide (coK m l l.length ≤ cost))
structure SetS (m : MktD) (t : List Int) (l : List SalC) : Prop where
  ok : ∀ k, k < l.length → OkS m t l k
  nd : ∀ i, i < m.hou.length → ndK m t l l.length i = 0
theorem setB_iff {m : MktD} {t : List Int} {l : List SalC} {cost : Int} : setB m t l cost = true ↔ SetS m t l ∧ coK m l l.length ≤ cost := by
  unfold setB
  simp only [Bool.and_eq_true, List.all_eq_true, List.mem_range, decide_eq_true_eq, okS_iff]
  exact ⟨fun ⟨h1, h2, h3⟩ => ⟨⟨h1, h2⟩, h3⟩, fun ⟨⟨h1, h2⟩, h3⟩ => ⟨h1, h2, h3⟩⟩
theorem getD_app {l r : List SalC} {k : Nat} (h : k < l.length) : (l ++ r).getD k default = l.getD k default := by
  rw [List.getD_eq_getElem?_getD, List.getElem?_append_left h, ← List.getD_eq_getElem?_getD]
theorem getD_end {l : List SalC} {s : SalC} : (l ++ [s]).getD l.length default = s := by simp [List.getD_eq_getElem?_getD]
theorem spK_app (m : MktD) (t : List Int) (l r : List SalC) (i : Nat) : ∀ k, k ≤ l.length → spK m t (l ++ r) k i = spK m t l k i
  | 0, _ => rfl
  | k + 1, h => by simp only [spK]; rw [getD_app (by omega), spK_app m t l r i k (by omega)]
theorem ndK_app (m : MktD) (t : List Int) (l r : List SalC) (i : Nat) : ∀ k, k ≤ l.length → ndK m t (l ++ r) k i = ndK m t l k i
  | 0, _ => rfl
  | k + 1, h => by simp only [ndK]; rw [getD_app (by omega), ndK_app m t l r i k (by omega)]
theorem coK_app (m : MktD) (l r : List SalC) : ∀ k, k ≤ l.length → coK m (l ++ r) k = coK m l k
  | 0, _ => rfl
  | k + 1, h => by simp only [coK]; rw [getD_app (by omega), coK_app m l r k (by omega)]
/-- a state that the sales so far lead to -/
structure SSt (m : MktD) (t : List Int) (st : SetD) : Prop where
  nd : ∀ i, i < m.hou.length → st.nd i = ndK m t st.sales st.sales.length i
  sp : ∀ i, i < m.hou.length → st.sp i = spK m t st.sales st.sales.length i
  co : st.cost = coK m st.sales st.sales.length
  ok : ∀ k, k < st.sales.length → OkS m t st.sales k
  bn : ∀ i, i < m.hou.length → 0 ≤ st.nd i ∧ st.nd i ≤ needN (posN m t i)
  bs : ∀ i, i < m.hou.length → 0 ≤ st.sp i ∧ st.sp i ≤ spareN (m.hou.getD i default) (posN m t i)
theorem need_nn (p : Int) : 0 ≤ needN p := by unfold needN; omega
theorem spare_nn (h : HouD) (p : Int) : 0 ≤ spareN h p := by unfold spareN; split <;> omega
theorem one_zero (h : HouD) (p : Int) : needN p = 0 ∨ spareN h p = 0 := by
  unfold needN spareN
  split <;> omega
theorem sst_start (m : MktD) (t : List Int) : SSt m t (startS m t) := ⟨fun i _ => rfl, fun i _ => rfl, rfl, fun k hk => absurd hk (Nat.not_lt_zero _), fun i _ => ⟨need_nn _, Int.le_refl _⟩, fun i _ => ⟨spare_nn _ _, Int.le_refl _⟩⟩
theorem sst_step {m : MktD} {t : List Int} {st : SetD} {f b : Nat} (h : SSt m t st) (hf : f < m.hou.length) (hb : b < m.hou.length) : SSt m t (stepS m st f b) := by
  unfold stepS
  split
  · exact h
  rename_i hne
  have hn := h.bn b hb
  have hs := h.bs f hf
  obtain ⟨x, hx⟩ : ∃ x, x = min (st.nd b) (st.sp f) := ⟨_, rfl⟩
  rw [← hx] at hne ⊢
  have hl : (st.sales ++ [(⟨f, b, x⟩ : SalC)]).length = st.sales.length + 1 := by simp
  refine ⟨fun i hi => ?_, fun i hi => ?_, ?_, fun k hk => ?_, fun i hi => ?_, fun i hi => ?_⟩
  · show (if i = b then st.nd b - x else st.nd i) = ndK m t (st.sales ++ [⟨f, b, x⟩]) (st.sales ++ [(⟨f, b, x⟩ : SalC)]).length i
    rw [hl]
    simp only [ndK]
    rw [getD_end, ndK_app _ _ _ _ _ _ (Nat.le_refl _), ← h.nd i hi]
    by_cases e : i = b
    · subst e; rw [if_pos rfl, if_pos rfl]
    · rw [if_neg e, if_neg (by show ¬ ((b : Nat) : Int) = (i : Int); omega)]; omega
  · show (if i = f then st.sp f - x else st.sp i) = spK m t (st.sales ++ [⟨f, b, x⟩]) (st.sales ++ [(⟨f, b, x⟩ : SalC)]).length i
    rw [hl]
    simp only [spK]
    rw [getD_end, spK_app _ _ _ _ _ _ (Nat.le_refl _), ← h.sp i hi]
    by_cases e : i = f
    · subst e; rw [if_pos rfl, if_pos rfl]
    · rw [if_neg e, if_neg (by show ¬ ((f : Nat) : Int) = (i : Int); omega)]; omega
  · show st.cost + x * (m.hou.getD f default).ask = coK m (st.sales ++ [⟨f, b, x⟩]) (st.sales ++ [(⟨f, b, x⟩ : SalC)]).length
    rw [hl]
    simp only [coK]
    rw [getD_end, coK_app _ _ _ _ (Nat.le_refl _), ← h.co]
    rfl
  · show OkS m t (st.sales ++ [⟨f, b, x⟩]) k
    have hk' : k < st.sales.length + 1 := by rw [← hl]; exact hk
    by_cases e : k = st.sales.length
    · subst e
      have hfb : f ≠ b := by
        rintro rfl
        rcases one_zero (m.hou.getD f default) (posN m t f) with h1 | h1 <;> omega
      have he := getD_end (l := st.sales) (s := ⟨f, b, x⟩)
      refine ⟨?_, ?_, ?_, ?_⟩ <;> rw [he]
      · show 0 ≤ ((f : Nat) : Int) ∧ ((f : Nat) : Int) < _; omega
      · show 0 ≤ ((b : Nat) : Int) ∧ ((b : Nat) : Int) < _; omega
      · show ((f : Nat) : Int) ≠ ((b : Nat) : Int); omega
      · show 1 ≤ x ∧ x ≤ spK m t (st.sales ++ [⟨f, b, x⟩]) st.sales.length f
        rw [spK_app _ _ _ _ _ _ (Nat.le_refl _), ← h.sp f hf]
        omega
    · have hk2 : k < st.sales.length := by omega
      have ho := h.ok k hk2
      have he := getD_app (r := [(⟨f, b, x⟩ : SalC)]) hk2
      refine ⟨?_, ?_, ?_, ?_⟩ <;> rw [he]
      · exact ho.fr
      · exact ho.to
      · exact ho.ne
      · rw [spK_app _ _ _ _ _ _ (by omega)]; exact ho.sh
  · show 0 ≤ (if i = b then st.nd b - x else st.nd i) ∧ (if i = b then st.nd b - x else st.nd i) ≤ _
    have := h.bn i hi
    split
    · rename_i e; subst e; omega
    · exact this
  · show 0 ≤ (if i = f then st.sp f - x else st.sp i) ∧ (if i = f then st.sp f - x else st.sp i) ≤ _
    have := h.bs i hi
    split
    · rename_i e; subst e; omega
    · exact this
theorem sst_inner {m : MktD} {t : List Int} {st : SetD} {f : Nat} (h : SSt m t st) (hf : f < m.hou.length) : ∀ n, n ≤ m.hou.length → SSt m t (innerS m st f n)
  | 0, _ => h
  | n + 1, hn => sst_step (sst_inner h hf n (by omega)) hf (by omega)
/-- how a seller's sales change a state -/
structure InS (n : Nat) (st st' : SetD) (f : Nat) : Prop where
  nd : ∀ i, i < n → st'.nd i ≤ st.nd i
  sp : ∀ i, i < n → i ≠ f → st'.sp i = st.sp i
  zero : st'.sp f = 0 ∨ ∀ i, i < n → st'.nd i = 0
  keep : (∀ i, i < n → st.nd i = 0) → ∀ i, i < n → st'.sp i = st.sp i
theorem inner_in {m : MktD} {t : List Int} {st : SetD} {f : Nat} (h : SSt m t st) (hf : f < m.hou.length) : ∀ n, n ≤ m.hou.length → (∀ i, i < m.hou.length → (innerS m st f n).nd i ≤ st.nd i) ∧ (∀ i, i < m.hou.length → i ≠ f → (innerS m st f n).sp i = st.sp i) ∧ ((innerS m st f n).sp f = 0 ∨ ∀ i, i < n → (innerS m st f n).nd i = 0) ∧ ((∀ i, i < m.hou.length → st.nd i = 0) → ∀ i, i < m.hou.length → (innerS m st f n).sp i = st.sp i)
  | 0, _ => ⟨fun i _ => Int.le_refl _, fun i _ _ => rfl, .inr fun i hi => absurd hi (Nat.not_lt_zero _), fun _ i _ => rfl⟩
  | n + 1, hn => by
    obtain ⟨h1, h2, h3, h4⟩ := inner_in h hf n (by omega)
    have hs := sst_inner h hf n (by omega)
    have hb := hs.bn n (by omega)
    have hc := hs.bs f hf
    show (∀ i, i < m.hou.length → (stepS m (innerS m st f n) f n).nd i ≤ st.nd i) ∧ (∀ i, i < m.hou.length → i ≠ f → (stepS m (innerS m st f n) f n).sp i = st.sp i) ∧ ((stepS m (innerS m st f n) f n).sp f = 0 ∨ ∀ i, i < n + 1 → (stepS m (innerS m st f n) f n).nd i = 0) ∧ ((∀ i, i < m.hou.length → st.nd i = 0) → ∀ i, i < m.hou.length → (stepS m (innerS m st f n) f n).sp i = st.sp i)
    generalize innerS m st f n = s at *
    unfold stepS
    split
    · rename_i e
      refine ⟨h1, h2, ?_, h4⟩
      rcases h3 with h3 | h3
      · exact .inl h3
      · by_cases c : s.sp f = 0
        · exact .inl c
        · right
          intro i hi
          by_cases e2 : i = n
          · subst e2; omega
          · exact h3 i (by omega)
    · rename_i e
      refine ⟨fun i hi => ?_, fun i hi hne => ?_, ?_, fun hz i hi => ?_⟩
      · show (if i = n then _ else _) ≤ _
        have := h1 i hi
        split
        · rename_i e2; subst e2; omega
        · exact this
      · show (if i = f then _ else _) = _
        rw [if_neg hne]; exact h2 i hi hne
      · show (if f = f then s.sp f - min (s.nd n) (s.sp f) else s.sp f) = 0 ∨ ∀ i, i < n + 1 → (if i = n then s.nd n - min (s.nd n) (s.sp f) else s.nd i) = 0
        rw [if_pos rfl]
        rcases h3 with h3 | h3
        · left; omega
        · by_cases c : s.sp f ≤ s.nd n
          · left; omega
          · right
            intro i hi
            split
            · omega
            · exact h3 i (by omega)
      · exfalso
        have := hz n (by omega)
        have := h1 n (by omega)
        omega
/-- what holds after the sellers L: those that are left are whole, and either all is settled, at a price, or these have nothing more -/
structure GrI (m : MktD) (t : List Int) (L : List Nat) (st : SetD) : Prop where
  sst : SSt m t st
  rest : ∀ f, f < m.hou.length → f ∉ L → st.sp f = spareN (m.hou.getD f default) (posN m t f)
  done : ((∀ i, i < m.hou.length → st.nd i = 0) ∧ ∃ P : Int, ∀ f, f < m.hou.length → ((m.hou.getD f default).ask < P → st.sp f = 0) ∧ (P < (m.hou.getD f default).ask → st.sp f = spareN (m.hou.getD f default) (posN m t f))) ∨ ∀ f ∈ L, st.sp f = 0
theorem gr_start (m : MktD) (t : List Int) : GrI m t [] (startS m t) := ⟨sst_start m t, fun f _ _ => rfl, .inr fun f hf => by cases hf⟩
theorem gr_step {m : MktD} {t : List Int} {L R : List Nat} {st : SetD} {f : Nat} (h : GrI m t L st) (hall : ∀ x, x ∈ L ++ f :: R ↔ x < m.hou.length) (hs : (L ++ f :: R).Pairwise (KB (asks m))) : GrI m t (L ++ [f]) (innerS m st f m.hou.length) := by
  have hf : f < m.hou.length := (hall f).1 (by simp)
  obtain ⟨h1, h2, h3, h4⟩ := inner_in h.sst hf m.hou.length (Nat.le_refl _)
  have hS := sst_inner h.sst hf m.hou.length (Nat.le_refl _)
  have hp := List.pairwise_append.1 hs
  have hR := (List.pairwise_cons.1 hp.2.1).1
  have hfL : f ∉ L := fun hc => kb_irr f (hp.2.2 f hc f List.mem_cons_self)
  refine ⟨hS, fun g hg hgn => ?_, ?_⟩
  · have hgf : g ≠ f := fun e => hgn (by subst e; simp)
    rw [h2 g hg hgf]
    exact h.rest g hg fun hc => hgn (List.mem_append_left _ hc)
  · rcases h.done with ⟨hz, P, hP⟩ | hz
    · left
      have hk := h4 hz
      refine ⟨fun i hi => ?_, P, fun g hg => ?_⟩
      · have := h1 i hi
        have := hz i hi
        have := (hS.bn i hi).1
        omega
      · rw [hk g hg]; exact hP g hg
    · have hL0 : ∀ g ∈ L, (innerS m st f m.hou.length).sp g = 0 := fun g hg => by
        have hgl : g < m.hou.length := (hall g).1 (List.mem_append_left _ hg)
        rw [h2 g hgl (fun e => hfL (by subst e; exact hg))]
        exact hz g hg
      rcases h3 with h3 | h3
      · right
        intro g hg
        rcases List.mem_append.1 hg with hg | hg
        · exact hL0 g hg
        · rw [List.mem_singleton.1 hg]; exact h3
      · left
        refine ⟨h3, (m.hou.getD f default).ask, fun g hg => ⟨fun hlt => ?_, fun hgt => ?_⟩⟩
        · rcases List.mem_append.1 ((hall g).2 hg) with hm | hm
          · exact hL0 g hm
          · rcases List.mem_cons.1 hm with hm | hm
            · subst hm; omega
            · have hk := hR g hm
              unfold KB at hk
              rw [asks_at hf, asks_at hg] at hk
              omega
        · have hgf : g ≠ f := fun e => by subst e; omega
          rw [h2 g hg hgf]
          refine h.rest g hg fun hc => ?_
          have hk := hp.2.2 g hc f List.mem_cons_self
          unfold KB at hk
          rw [asks_at hf, asks_at hg] at hk
          omega
theorem gr_all {m : MktD} {t : List Int} : ∀ (R L : List Nat), (∀ x, x ∈ L ++ R ↔ x < m.hou.length) → (L ++ R).Pairwise (KB (asks m)) → GrI m t L (outerS m t L) → GrI m t (L ++ R) (outerS m t (L ++ R))
  | [], L, _, _, h => by rw [List.append_nil]; exact h
  | f :: R, L, ha, hs, h => by
    have h2 := gr_step h ha hs
    rw [← outer_snoc] at h2
    have e : L ++ f :: R = (L ++ [f]) ++ R := by simp
    rw [e] at ha hs ⊢
    exact gr_all R (L ++ [f]) ha hs h2
theorem gr_end {m : MktD} (t : List Int) (hv : VMkt m) : GrI m t (cheapL m) (outerS m t (cheapL m)) := by
  have h := gr_all (m := m) (t := t) (cheapL m) [] (fun x => by rw [List.nil_append]; exact cheap_mem hv) (by rw [List.nil_append]; exact ord_srt _) (gr_start m t)
  rw [List.nil_append] at h
  exact h
/-- sums over all houses, after the first sales -/
theorem sp_sum {m : MktD} {t : List Int} {l : List SalC} : ∀ k, (∀ j, j < k → 0 ≤ (l.getD j default).fr ∧ (l.getD j default).fr < m.hou.length) → sumF (spK m t l k) m.hou.length = sumF (spK m t l 0) m.hou.length - shK l k
  | 0, _ => by simp [shK]
  | k + 1, h => by
    have ih := sp_sum (m := m) (t := t) (l := l) k (fun j hj => h j (by omega))
    have hk := h k (by omega)
    obtain ⟨a, ha⟩ : ∃ a : Nat, (l.getD k default).fr = a := ⟨(l.getD k default).fr.toNat, by omega⟩
    have e : sumF (spK m t l (k + 1)) m.hou.length = sumF (fun i => spK m t l k i - (if (a : Int) = (i : Int) then (l.getD k default).sh else 0)) m.hou.length := sumF_congr fun i _ => by rw [← ha]; rfl
    rw [e, sumF_sub (spK m t l k), ih, sumF_one, if_pos (by omega)]
    simp only [shK]
    omega
theorem nd_sum {m : MktD} {t : List Int} {l : List SalC} : ∀ k, (∀ j, j < k → 0 ≤ (l.getD j default).to ∧ (l.getD j default).to < m.hou.length) → sumF (ndK m t l k) m.hou.length = sumF (ndK m t l 0) m.hou.length - shK l k
  | 0, _ => by simp [shK]
  | k + 1, h => by
    have ih := nd_sum (m := m) (t := t) (l := l) k (fun j hj => h j (by omega))
    have hk := h k (by omega)
    obtain ⟨a, ha⟩ : ∃ a : Nat, (l.getD k default).to = a := ⟨(l.getD k default).to.toNat, by omega⟩
    have e : sumF (ndK m t l (k + 1)) m.hou.length = sumF (fun i => ndK m t l k i - (if (a : Int) = (i : Int) then (l.getD k default).sh else 0)) m.hou.length := sumF_congr fun i _ => by rw [← ha]; rfl
    rw [e, sumF_sub (ndK m t l k), ih, sumF_one, if_pos (by omega)]
    simp only [shK]
    omega
theorem sumF_oneF {s : Nat} {x : Int} {f : Nat → Int} : ∀ {n : Nat}, sumF (fun i => f i * (if (s : Int) = (i : Int) then x else 0)) n = if s < n then f s * x else 0
  | 0 => rfl
  | n + 1 => by
    have ih := sumF_oneF (s := s) (x := x) (f := f) (n := n)
    simp only [sumF]
    rw [ih]
    by_cases e : s = n
    · subst e; rw [if_neg (Nat.lt_irrefl _), if_pos rfl, if_pos (Nat.lt_succ_self _), Int.zero_add]
    · rw [if_neg (show ¬ (s : Int) = (n : Int) by omega), Int.mul_zero, Int.add_zero]
      by_cases c : s < n
      · rw [if_pos c, if_pos (by omega)]
      · rw [if_neg c, if_neg (by omega)]
/-- the cost is that of what each seller sells -/
theorem co_sum {m : MktD} {t : List Int} {l : List SalC} : ∀ k, (∀ j, j < k → 0 ≤ (l.getD j default).fr ∧ (l.getD j default).fr < m.hou.length) → coK m l k = sumF (fun i => (m.hou.getD i default).ask * (spK m t l 0 i - spK m t l k i)) m.hou.length
  | 0, _ => by
    symm
    exact sumF_zero fun i _ => by rw [Int.sub_self, Int.mul_zero]
  | k + 1, h => by
    have ih := co_sum (m := m) (t := t) (l := l) k (fun j hj => h j (by omega))
    have hk := h k (by omega)
    obtain ⟨a, ha⟩ : ∃ a : Nat, (l.getD k default).fr = a := ⟨(l.getD k default).fr.toNat, by omega⟩
    have e : sumF (fun i => (m.hou.getD i default).ask * (spK m t l 0 i - spK m t l (k + 1) i)) m.hou.length = sumF (fun i => (m.hou.getD i default).ask * (spK m t l 0 i - spK m t l k i) + (m.hou.getD i default).ask * (if (a : Int) = (i : Int) then (l.getD k default).sh else 0)) m.hou.length := sumF_congr fun i _ => by
      rw [← Int.mul_add, ← ha]
      congr 1
      show _ - (spK m t l k i - _) = _
      omega
    have e2 : coK m l (k + 1) = coK m l k + (l.getD k default).sh * (m.hou.getD (l.getD k default).fr.toNat default).ask := rfl
    rw [e, sumF_add (fun i => (m.hou.getD i default).ask * (spK m t l 0 i - spK m t l k i)), ← ih, sumF_oneF, if_pos (by omega), e2, ha]
    rw [show ((a : Int)).toNat = a from rfl, Int.mul_comm]
theorem sumF_mul (P : Int) (f : Nat → Int) : ∀ n, sumF (fun k => P * f k) n = P * sumF f n
  | 0 => by simp [sumF]
  | n + 1 => by simp only [sumF, sumF_mul P f n, Int.mul_add]
theorem spK_nn {m : MktD} {t : List Int} {l : List SalC} {k i : Nat} (h : ∀ j, j < k → OkS m t l j) : 0 ≤ spK m t l k i ∧ spK m t l k i ≤ spK m t l 0 i := by
  induction k with
  | zero => exact ⟨spare_nn _ _, Int.le_refl _⟩
  | succ k ih =>
    have h1 := ih (fun j hj => h j (by omega))
    have h2 := h k (by omega)
    have h3 := h2.sh
    have h4 := h2.fr
    simp only [spK]
    by_cases e : (l.getD k default).fr = (i : Int)
    · rw [if_pos e]
      rw [e] at h3
      have : ((i : Int)).toNat = i := rfl
      rw [this] at h3
      have h5 : spK m t l 0 i = spareN (m.hou.getD i default) (posN m t i) := rfl
      omega
    · rw [if_neg e]
      have h5 : spK m t l 0 i = spareN (m.hou.getD i default) (posN m t i) := rfl
      omega
/-- in a settlement as much is sold as is needed -/
theorem set_sh {m : MktD} {t : List Int} {l : List SalC} (h : SetS m t l) : shK l l.length = sumF (fun i => needN (posN m t i)) m.hou.length ∧ sumF (spK m t l l.length) m.hou.length = sumF (fun i => spareN (m.hou.getD i default) (posN m t i)) m.hou.length - shK l l.length := by
  have h1 := nd_sum (t := t) (l := l) (m := m) l.length (fun j hj => (h.ok j hj).to)
  have h2 := sp_sum (t := t) (l := l) (m := m) l.length (fun j hj => (h.ok j hj).fr)
  rw [sumF_zero h.nd] at h1
  refine ⟨?_, h2⟩
  have : sumF (ndK m t l 0) m.hou.length = sumF (fun i => needN (posN m t i)) m.hou.length := rfl
  omega
theorem set_short {m : MktD} {t : List Int} {l : List SalC} (ht : t.length = m.hou.length) (h : SetS m t l) : shortT m t ≤ 0 := by
  obtain ⟨h1, h2⟩ := set_sh h
  have h3 : (0 : Int) ≤ sumF (spK m t l l.length) m.hou.length := by
    have := sumF_le (f := fun _ => 0) (g := spK m t l l.length) (n := m.hou.length) (fun k hk => (spK_nn h.ok).1)
    rw [sumF_zero (fun _ _ => rfl)] at this
    exact this
  rw [← short_need ht, need_sum, spare_sum]
  omega
theorem set_cost {m : MktD} {t : List Int} {l : List SalC} (h : SetS m t l) : coK m l l.length = sumF (fun i => (m.hou.getD i default).ask * (spareN (m.hou.getD i default) (posN m t i) - spK m t l l.length i)) m.hou.length :=
  co_sum l.length (fun j hj => (h.ok j hj).fr)
/-- all is settled at the end if and only if not too much is needed -/
theorem gr_short {m : MktD} {t : List Int} (hv : VMkt m) (ht : t.length = m.hou.length) : (∀ i, i < m.hou.length → (outerS m t (cheapL m)).nd i = 0) ↔ shortT m t ≤ 0 := by
  have h := gr_end t hv
  obtain ⟨st, hst⟩ : ∃ st, outerS m t (cheapL m) = st := ⟨_, rfl⟩
  rw [hst] at h ⊢
  have e1 := nd_sum (m := m) (t := t) (l := st.sales) st.sales.length (fun j hj => (h.sst.ok j hj).to)
  have e2 := sp_sum (m := m) (t := t) (l := st.sales) st.sales.length (fun j hj => (h.sst.ok j hj).fr)
  rw [← sumF_congr h.sst.nd] at e1
  rw [← sumF_congr h.sst.sp] at e2
  have e3 : sumF (ndK m t st.sales 0) m.hou.length = sumF (fun i => needN (posN m t i)) m.hou.length := rfl
  have e4 : sumF (spK m t st.sales 0) m.hou.length = sumF (fun i => spareN (m.hou.getD i default) (posN m t i)) m.hou.length := rfl
  rw [← short_need ht, need_sum, spare_sum]
  constructor
  · intro hz
    rw [sumF_zero hz] at e1
    have h3 := sumF_le (f := fun _ => 0) (g := st.sp) (n := m.hou.length) (fun k hk => (h.sst.bs k hk).1)
    rw [sumF_zero (fun _ _ => rfl)] at h3
    omega
  · intro hs i hi
    rcases h.done with ⟨hz, _⟩ | hz
    · exact hz i hi
    · have h0 : sumF st.sp m.hou.length = 0 := sumF_zero fun k hk => hz k ((cheap_mem hv).2 hk)
      have h1 := h.sst.bn i hi
      refine Classical.byContradiction fun hne => ?_
      have h3 := sumF_le (f := fun k => if (i : Int) = (k : Int) then 1 else 0) (g := st.nd) (n := m.hou.length) (fun k hk => by
        have := h.sst.bn k hk
        show (if (i : Int) = (k : Int) then (1 : Int) else 0) ≤ st.nd k
        split
        · rename_i e
          obtain rfl : i = k := by omega
          omega
        · omega)
      rw [sumF_one, if_pos hi] at h3
      omega
theorem gr_set {m : MktD} {t : List Int} (hv : VMkt m) (hz : ∀ i, i < m.hou.length → (outerS m t (cheapL m)).nd i = 0) : SetS m t (outerS m t (cheapL m)).sales ∧ coK m (outerS m t (cheapL m)).sales (outerS m t (cheapL m)).sales.length = (outerS m t (cheapL m)).cost := by
  have h := (gr_end t hv).sst
  exact ⟨⟨h.ok, fun i hi => by rw [← h.nd i hi]; exact hz i hi⟩, h.co.symm⟩
theorem mul_ch {a P x y s : Int} (h1 : a < P → x = s) (h2 : P < a → x = 0) (hx : 0 ≤ x ∧ x ≤ s) (hy : 0 ≤ y ∧ y ≤ s) : a * x + P * (y - x) ≤ a * y := by
  have e : a * y = a * x + a * (y - x) := by rw [← Int.mul_add]; congr 1; omega
  rw [e]
  refine Int.add_le_add_left ?_ _
  rcases Int.lt_trichotomy a P with c | c | c
  · have := h1 c
    exact Int.mul_le_mul_of_nonpos_right (by omega) (by omega)
  · rw [c]; exact Int.le_refl _
  · have := h2 c
    exact Int.mul_le_mul_of_nonneg_right (by omega) (by omega)
/-- no settlement costs less than Settle's -/
theorem gr_cheapest {m : MktD} {t : List Int} (hv : VMkt m) (hz : ∀ i, i < m.hou.length → (outerS m t (cheapL m)).nd i = 0) {l : List SalC} (h : SetS m t l) : (outerS m t (cheapL m)).cost ≤ coK m l l.length := by
  have hg := gr_end t hv
  obtain ⟨hs, hco⟩ := gr_set hv hz
  obtain ⟨st, hst⟩ : ∃ st, outerS m t (cheapL m) = st := ⟨_, rfl⟩
  rw [hst] at hg hs hco hz ⊢
  have hP : ∃ P : Int, ∀ f, f < m.hou.length → ((m.hou.getD f default).ask < P → st.sp f = 0) ∧ (P < (m.hou.getD f default).ask → st.sp f = spareN (m.hou.getD f default) (posN m t f)) := by
    rcases hg.done with ⟨_, h⟩ | h
    · exact h
    · exact ⟨1001, fun f hf => ⟨fun _ => h f ((cheap_mem hv).2 hf), fun hc => by have := hv.ask f hf; omega⟩⟩
  obtain ⟨P, hP⟩ := hP
  obtain ⟨a1, a2⟩ := set_sh hs
  obtain ⟨b1, b2⟩ := set_sh h
  rw [← hco, set_cost hs, set_cost h]
  rw [← sumF_congr (g := spK m t st.sales st.sales.length) hg.sst.sp] at a2
  have e : sumF (fun i => (m.hou.getD i default).ask * (spareN (m.hou.getD i default) (posN m t i) - spK m t st.sales st.sales.length i) + P * ((spareN (m.hou.getD i default) (posN m t i) - spK m t l l.length i) - (spareN (m.hou.getD i default) (posN m t i) - spK m t st.sales st.sales.length i))) m.hou.length ≤ sumF (fun i => (m.hou.getD i default).ask * (spareN (m.hou.getD i default) (posN m t i) - spK m t l l.length i)) m.hou.length := sumF_le fun i hi => by
    have hx := hP i hi
    have hb := hg.sst.bs i hi
    have hn := spK_nn (i := i) h.ok
    have hn0 : spK m t l 0 i = spareN (m.hou.getD i default) (posN m t i) := rfl
    rw [← hg.sst.sp i hi]
    exact mul_ch (s := spareN (m.hou.getD i default) (posN m t i)) (fun c => by have := hx.1 c; omega) (fun c => by have := hx.2 c; omega) (by omega) (by omega)
  rw [sumF_add (fun i => (m.hou.getD i default).ask * (spareN (m.hou.getD i default) (posN m t i) - spK m t st.sales st.sales.length i)), sumF_mul P (fun i => (spareN (m.hou.getD i default) (posN m t i) - spK m t l l.length i) - (spareN (m.hou.getD i default) (posN m t i) - spK m t st.sales st.sales.length i)), sumF_sub (fun i => spareN (m.hou.getD i default) (posN m t i) - spK m t l l.length i), sumF_sub (fun i => spareN (m.hou.getD i default) (posN m t i)), sumF_sub (fun i => spareN (m.hou.getD i default) (posN m t i)), ← sumF_congr (g := spK m t st.sales st.sales.length) hg.sst.sp] at e
  have e0 : sumF (fun i => spareN (m.hou.getD i default) (posN m t i)) m.hou.length - sumF (spK m t l l.length) m.hou.length - (sumF (fun i => spareN (m.hou.getD i default) (posN m t i)) m.hou.length - sumF st.sp m.hou.length) = 0 := by omega
  have e1 : sumF (fun i => spK m t l l.length i) m.hou.length = sumF (spK m t l l.length) m.hou.length := rfl
  have e2 : sumF (fun i => st.sp i) m.hou.length = sumF st.sp m.hou.length := rfl
  rw [e1, e0, Int.mul_zero, Int.add_zero] at e
  exact e
end Go.Proofs.Ytallicfckbdeaaa
