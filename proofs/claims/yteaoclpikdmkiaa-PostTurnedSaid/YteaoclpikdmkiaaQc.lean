/- Posts whose orders match alike have the same sales; posts that are turned have them turned. Plain. -/
import Derived.Test.YteaoclpikdmkiaaNr
namespace Go.Proofs.Yteaoclpikdmkiaa
open Go Go.RowKit Go.Tl
set_option linter.unusedVariables false
set_option linter.unusedSimpArgs false
/-- an order of another post that matches alike, or is turned -/
structure RelO (z : Bool) (o x : OrdD) : Prop where
  buy : x.buy = (z != o.buy)
  lim : x.lim = if z = true then 101 - o.lim else o.lim
  num : x.num = o.num
def turnS (z : Bool) (s : SaleD) : SaleD := if z = true then ⟨s.seller, s.buyer, s.num, 101 - s.price⟩ else s
theorem turnS_no (s : SaleD) : turnS false s = s := rfl
theorem turnS_yes (s : SaleD) : turnS true s = ⟨s.seller, s.buyer, s.num, 101 - s.price⟩ := rfl
theorem rel_refl (o x : OrdD) (h1 : x.buy = o.buy) (h2 : x.lim = o.lim) (h3 : x.num = o.num) : RelO false o x := ⟨by rw [h1]; cases o.buy <;> rfl, by rw [h2]; rfl, h3⟩
theorem rel_meets {z : Bool} {o x o' x' : OrdD} (h : RelO z o o') (h' : RelO z x x') : meetsB o' x' = meetsB o x := by
  rw [Bool.eq_iff_iff, meets_iff, meets_iff, h.buy, h'.buy, h.lim, h'.lim]
  cases z
  · cases o.buy <;> cases x.buy <;> simp
  · cases o.buy <;> cases x.buy <;> simp <;> omega
theorem rel_better {z : Bool} {o x o' x' : OrdD} (h : RelO z o o') (h' : RelO z x x') (hb : o.buy = x.buy) : betterB o' x' = betterB o x := by
  unfold betterB
  rw [h.buy, h.lim, h'.lim]
  cases z
  · cases o.buy <;> rfl
  · cases o.buy
    · show decide (101 - x.lim < 101 - o.lim) = decide (o.lim < x.lim)
      exact decide_eq_decide.2 (by omega)
    · show decide (101 - o.lim < 101 - x.lim) = decide (x.lim < o.lim)
      exact decide_eq_decide.2 (by omega)
/-- all the orders of some list are related -/
def RelP (z : Bool) (p x : PostD) (S : Nat → Prop) : Prop := ∀ i, S i → RelO z (oAt p i) (oAt x i)
theorem rest_buy {p : PostD} {left : Nat → Int} {o : OrdD} {came : List Int} {k : Nat} (h : 0 ≤ restN p left o came k) : (oAt p (restN p left o came k).toNat).buy = !o.buy := by
  rcases meets_iff.1 (rest_meets k h) with ⟨h1, h2, _⟩ | ⟨h1, h2, _⟩
  · rw [h1, h2]; rfl
  · rw [h1, h2]; rfl
theorem rel_rest {z : Bool} {p x : PostD} {left : Nat → Int} {o o' : OrdD} {came : List Int} (hc : ∀ y ∈ came, 0 ≤ y) (ho : RelO z o o') (hr : ∀ i : Nat, (i : Int) ∈ came → RelO z (oAt p i) (oAt x i)) : ∀ k, k ≤ came.length → restN x left o' came k = restN p left o came k
  | 0, _ => rfl
  | k + 1, hk => by
    have ih := rel_rest (left := left) hc ho hr k (by omega)
    have hm := getD_mem (d := (0 : Int)) (show k < came.length by omega)
    have hk0 := hc _ hm
    have hrk := hr (came.getD k 0).toNat (by rw [Int.toNat_of_nonneg hk0]; exact hm)
    simp only [restN]
    rw [ih, rel_meets ho hrk]
    cases e1 : meetsB o (oAt p (came.getD k 0).toNat)
    · simp
    · by_cases e2 : restN p left o came k < 0
      · rw [decide_eq_true e2]; simp
      · have e3 : 0 ≤ restN p left o came k := by omega
        have hbm := rest_mem (p := p) (left := left) (o := o) (came := came) k (by omega)
        have hb := hr (restN p left o came k).toNat (by rw [Int.toNat_of_nonneg e3]; exact (hbm.resolve_left (by omega)).1)
        have hbuy := rest_buy e3
        have hk2 : (oAt p (came.getD k 0).toNat).buy = !o.buy := by
          rcases meets_iff.1 e1 with ⟨h1, h2, _⟩ | ⟨h1, h2, _⟩
          · rw [h1, h2]; rfl
          · rw [h1, h2]; rfl
        rw [rel_better hrk hb (by rw [hk2, hbuy])]
theorem rel_sale {z : Bool} {p x : PostD} {o o' : OrdD} {i k : Nat} {n : Int} (ho : RelO z o o') (hk : RelO z (oAt p k) (oAt x k)) : saleN x o' i k n = turnS z (saleN p o i k n) := by
  unfold saleN
  rw [ho.buy, hk.lim]
  cases z
  · cases o.buy <;> rfl
  · cases o.buy <;> rfl
theorem rel_match {z : Bool} {p x : PostD} {o o' : OrdD} {i : Nat} {came : List Int} (hc : ∀ y ∈ came, 0 ≤ y) (ho : RelO z o o') (hr : ∀ i : Nat, (i : Int) ∈ came → RelO z (oAt p i) (oAt x i)) : ∀ (f : Nat) (s : (Nat → Int) × List SaleD), matchN x o' i came f (s.1, s.2.map (turnS z)) = ((matchN p o i came f s).1, (matchN p o i came f s).2.map (turnS z))
  | 0, s => rfl
  | f + 1, s => by
    simp only [matchN]
    rw [rel_rest hc ho hr came.length (Nat.le_refl _)]
    by_cases h1 : 0 < s.1 i
    · rw [if_pos h1, if_pos h1]
      by_cases h2 : restN p s.1 o came came.length < 0
      · rw [if_pos h2, if_pos h2]
      · rw [if_neg h2, if_neg h2]
        have hbm := rest_mem (p := p) (left := s.1) (o := o) (came := came) came.length (Nat.le_refl _)
        have hb := hr (restN p s.1 o came came.length).toNat (by rw [Int.toNat_of_nonneg (by omega)]; exact (hbm.resolve_left (by omega)).1)
        rw [rel_sale ho hb, ← rel_match hc ho hr f, List.map_append]
        rfl
    · rw [if_neg h1, if_neg h1]
theorem rel_come {z : Bool} {p x : PostD} {F G : FloD} {i : Nat} (hc : ∀ y ∈ F.came, 0 ≤ y) (ho : RelO z (oAt p i) (oAt x i)) (hr : ∀ i : Nat, (i : Int) ∈ F.came → RelO z (oAt p i) (oAt x i)) (h1 : G.left = F.left) (h2 : G.came = F.came) (h3 : G.log = F.log.map (turnS z)) :
    (comeN x G i).left = (comeN p F i).left ∧ (comeN x G i).came = (comeN p F i).came ∧ (comeN x G i).log = (comeN p F i).log.map (turnS z) := by
  have hm := rel_match (i := i) hc ho hr 20 (fun q => if q = i then (oAt p i).num else F.left q, F.log)
  unfold comeN
  rw [h1, h2, h3, ho.num, hm]
  exact ⟨rfl, rfl, rfl⟩
theorem rel_run {z : Bool} {p x : PostD} : ∀ l : List Nat, (∀ i ∈ l, RelO z (oAt p i) (oAt x i)) → (runN x l).left = (runN p l).left ∧ (runN x l).came = (runN p l).came ∧ (runN x l).log = (runN p l).log.map (turnS z) := fun l => by
  have key : ∀ r : List Nat, (∀ i ∈ r.reverse, RelO z (oAt p i) (oAt x i)) → (runN x r.reverse).left = (runN p r.reverse).left ∧ (runN x r.reverse).came = (runN p r.reverse).came ∧ (runN x r.reverse).log = (runN p r.reverse).log.map (turnS z) := fun r => by
    induction r with
    | nil => intro _; exact ⟨rfl, rfl, rfl⟩
    | cons i r ih =>
      intro h
      rw [List.reverse_cons] at h ⊢
      rw [run_snoc, run_snoc]
      obtain ⟨h1, h2, h3⟩ := ih fun j hj => h j (List.mem_append_left _ hj)
      refine rel_come ?_ (h i (by simp)) ?_ h1 h2 h3
      · rw [run_came]
        intro y hy
        obtain ⟨j, _, rfl⟩ := List.mem_map.1 hy
        exact Int.natCast_nonneg j
      · rw [run_came]
        intro j hj
        obtain ⟨j', hj', e⟩ := List.mem_map.1 hj
        have e' : (j' : Int) = (j : Int) := e
        obtain rfl : j' = j := by omega
        exact h j' (List.mem_append_left _ hj')
  have := key l.reverse
  rwa [List.reverse_reverse] at this
theorem rel_play {z : Bool} {p x : PostD} {t : List Int} (h : ∀ i, i < t.length → RelO z (oAt p i) (oAt x i)) : playT x t = (playT p t).map (turnS z) :=
  (rel_run (comesN t) fun i hi => h i (comes_mem.1 hi).1).2.2
theorem map_turn_no (l : List SaleD) : l.map (turnS false) = l := by
  conv => rhs; rw [← List.map_id l]
  exact List.map_congr_left fun s _ => rfl
/-- posts whose orders match alike -/
theorem same_play {p x : PostD} {t : List Int} (h : ∀ i, i < t.length → (oAt x i).buy = (oAt p i).buy ∧ (oAt x i).lim = (oAt p i).lim ∧ (oAt x i).num = (oAt p i).num) : playT x t = playT p t := by
  rw [rel_play (z := false) fun i hi => rel_refl _ _ (h i hi).1 (h i hi).2.1 (h i hi).2.2, map_turn_no]
end Go.Proofs.Yteaoclpikdmkiaa
