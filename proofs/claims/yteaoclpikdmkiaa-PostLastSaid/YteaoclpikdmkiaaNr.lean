/- What holds of the sales of a truth: plain. -/
import Derived.Test.YteaoclpikdmkiaaNi
namespace Go.Proofs.Yteaoclpikdmkiaa
open Go Go.RowKit Go.Tl
set_option linter.unusedVariables false
set_option linter.unusedSimpArgs false
/-- a sale between an order that buys and one that sells, at a price that both allow -/
structure SOk (p : PostD) (s : SaleD) : Prop where
  bl : 0 ≤ s.buyer ∧ s.buyer < p.ords.length
  sl : 0 ≤ s.seller ∧ s.seller < p.ords.length
  buy : (oAt p s.buyer.toNat).buy = true
  sell : (oAt p s.seller.toNat).buy = false
  num : 1 ≤ s.num ∧ s.num ≤ 20
  hi : s.price ≤ (oAt p s.buyer.toNat).lim
  lo : (oAt p s.seller.toNat).lim ≤ s.price
  one : s.price = (oAt p s.buyer.toNat).lim ∨ s.price = (oAt p s.seller.toNat).lim
theorem rest_meets {p : PostD} {left : Nat → Int} {o : OrdD} {came : List Int} : ∀ k, 0 ≤ restN p left o came k → meetsB o (oAt p (restN p left o came k).toNat) = true
  | 0, h => by have : (0 : Int) ≤ -1 := h; omega
  | k + 1, h => by
    simp only [restN] at h ⊢
    split
    · rename_i h1
      simp only [Bool.and_eq_true] at h1
      exact h1.2.1
    · rename_i h1
      rw [if_neg h1] at h
      exact rest_meets k h
theorem meets_iff {o x : OrdD} : meetsB o x = true ↔ (o.buy = true ∧ x.buy = false ∧ x.lim ≤ o.lim) ∨ (o.buy = false ∧ x.buy = true ∧ o.lim ≤ x.lim) := by
  unfold meetsB
  cases o.buy <;> cases x.buy <;> simp
theorem sale_ok {p : PostD} {i k : Nat} {n : Int} (hi : i < p.ords.length) (hk : k < p.ords.length) (hn : 1 ≤ n ∧ n ≤ 20) (hm : meetsB (oAt p i) (oAt p k) = true) : SOk p (saleN p (oAt p i) i k n) := by
  unfold saleN
  rcases meets_iff.1 hm with ⟨h1, h2, h3⟩ | ⟨h1, h2, h3⟩
  · rw [if_pos h1]
    exact ⟨⟨Int.natCast_nonneg _, by show (i : Int) < _; omega⟩, ⟨Int.natCast_nonneg _, by show (k : Int) < _; omega⟩, h1, h2, hn, h3, Int.le_refl _, .inr rfl⟩
  · rw [if_neg (by rw [h1]; decide)]
    exact ⟨⟨Int.natCast_nonneg _, by show (k : Int) < _; omega⟩, ⟨Int.natCast_nonneg _, by show (i : Int) < _; omega⟩, h2, h1, hn, Int.le_refl _, h3, .inl rfl⟩
theorem match_sok {p : PostD} (hv : VPost p) {i : Nat} {came : List Int} (hi : i < p.ords.length) (hc : ∀ x ∈ came, 0 ≤ x ∧ x < p.ords.length) : ∀ (f : Nat) (s : (Nat → Int) × List SaleD), (∀ q, q < 6 → 0 ≤ s.1 q ∧ s.1 q ≤ 20) → (∀ x ∈ s.2, SOk p x) →
    ∀ x ∈ (matchN p (oAt p i) i came f s).2, SOk p x
  | 0, s, _, h => h
  | f + 1, s, hb, h => by
    have hlen := hv.len
    simp only [matchN]
    split
    · split
      · exact h
      · rename_i h1 h2
        have hri := rest_in (p := p) (left := s.1) (o := oAt p i) (n := p.ords.length) (by omega) hc came.length (Nat.le_refl _)
        have hrm := rest_meets (p := p) (left := s.1) (o := oAt p i) (came := came) came.length (by omega)
        have hrp := rest_mem (p := p) (left := s.1) (o := oAt p i) (came := came) came.length (Nat.le_refl _)
        have hst := match_ok hv (o := oAt p i) (i := i) hi hc 1 s hb
        generalize hk' : restN p s.1 (oAt p i) came came.length = k at *
        obtain ⟨k, rfl⟩ : ∃ q : Nat, k = q := ⟨k.toNat, by omega⟩
        rw [Int.toNat_natCast] at hrm hrp ⊢
        have hk := hb k (by omega)
        have hi' := hb i (by omega)
        obtain ⟨_, hk0⟩ := hrp.resolve_left (by omega)
        refine match_sok hv hi hc f _ (fun q hq => ?_) (fun x hx => ?_)
        · have hq' := hb q hq
          show 0 ≤ (if q = k then s.1 k - min (s.1 i) (s.1 k) else if q = i then s.1 i - min (s.1 i) (s.1 k) else s.1 q) ∧ (if q = k then s.1 k - min (s.1 i) (s.1 k) else if q = i then s.1 i - min (s.1 i) (s.1 k) else s.1 q) ≤ 20
          split
          · omega
          · split <;> omega
        · rcases List.mem_append.1 hx with hx | hx
          · exact h x hx
          · rw [List.mem_singleton.1 hx]
            exact sale_ok hi (by omega) (by omega) hrm
    · exact h
theorem come_sok {p : PostD} (hv : VPost p) {F : FloD} (h : FOk p F) {i : Nat} (hi : i < p.ords.length) (hs : ∀ x ∈ F.log, SOk p x) : ∀ x ∈ (comeN p F i).log, SOk p x := by
  have hnum := hv.num i hi
  refine match_sok hv hi h.came 20 _ (fun q hq => ?_) hs
  have := h.left q hq
  have h3 : 1 ≤ (oAt p i).num ∧ (oAt p i).num ≤ 20 := hnum
  show 0 ≤ (if q = i then (oAt p i).num else F.left q) ∧ (if q = i then (oAt p i).num else F.left q) ≤ 20
  split <;> omega
/-- something that holds at first, and goes on, holds of the floor after any orders came -/
theorem run_ind {p : PostD} (hv : VPost p) {Q : FloD → Prop} (h0 : Q flo0) (hs : ∀ F i, FOk p F → i < p.ords.length → (i : Int) ∉ F.came → Q F → Q (comeN p F i)) {l : List Nat} (hnd : l.Nodup) (hlt : ∀ i ∈ l, i < p.ords.length) : Q (runN p l) := by
  have key : ∀ (r l : List Nat), (r ++ l).Nodup → (∀ i ∈ r ++ l, i < p.ords.length) → Q (runN p r) → Q (runN p (r ++ l)) := fun r l => by
    induction l generalizing r with
    | nil => intro _ _ h; rw [List.append_nil]; exact h
    | cons i l ih =>
      intro h1 h2 h3
      have h4 := ih (r ++ [i]) (by rw [List.append_assoc]; exact h1) (by rw [List.append_assoc]; exact h2) (by
        rw [run_snoc]
        refine hs _ _ (fok_run hv (List.nodup_append.1 h1).1 (fun j hj => h2 j (List.mem_append_left _ hj))) (h2 i (by simp)) ?_ h3
        rw [run_came]
        intro hm
        obtain ⟨j, hj, e⟩ := List.mem_map.1 hm
        have e' : (j : Int) = (i : Int) := e
        obtain rfl : j = i := by omega
        exact (List.nodup_append.1 h1).2.2 j hj j (by simp) rfl)
      rwa [List.append_assoc] at h4
  have := key [] l (by simpa using hnd) (by simpa using hlt) h0
  simpa using this
theorem run_sok {p : PostD} (hv : VPost p) {l : List Nat} (hnd : l.Nodup) (hlt : ∀ i ∈ l, i < p.ords.length) : ∀ x ∈ (runN p l).log, SOk p x :=
  run_ind hv (Q := fun F => ∀ x ∈ F.log, SOk p x) (fun _ h => (nomatch h)) (fun F i h1 h2 _ h4 => come_sok hv h1 h2 h4) hnd hlt
theorem comes_lt {p : PostD} {t : List Int} (ht : truthB p t = true) : ∀ i ∈ comesN t, i < p.ords.length := fun i hi => by
  obtain ⟨h1, h2⟩ := truth_iff.1 ht
  have := comes_mem.1 hi
  omega
theorem play_sok {p : PostD} (hv : VPost p) {t : List Int} (ht : truthB p t = true) : ∀ x ∈ playT p t, SOk p x := run_sok hv (srt_nodup (comes_srt t)) (comes_lt ht)
theorem play_len {p : PostD} (hv : VPost p) {t : List Int} (ht : truthB p t = true) : (playT p t).length ≤ 120 := by
  have h := fok_run hv (srt_nodup (comes_srt t)) (comes_lt ht)
  have h1 := h.log
  have h2 := fok_len hv h
  have h3 := hv.len
  show (runN p (comesN t)).log.length ≤ 120
  omega
theorem leaf_sok {p : PostD} (hv : VPost p) {x : Leaf} (hx : x ∈ leaves p) : ∀ s ∈ x.1, SOk p s := by
  obtain ⟨h1, h2⟩ := leaves_sound hv hx
  rw [h2]; exact play_sok hv h1
theorem leaf_len {p : PostD} (hv : VPost p) {x : Leaf} (hx : x ∈ leaves p) : x.1.length ≤ 120 := by
  obtain ⟨h1, h2⟩ := leaves_sound hv hx
  rw [h2]; exact play_len hv h1
end Go.Proofs.Yteaoclpikdmkiaa
