/- Bounds over the leaves and over the numbered truths are the same. Plain. -/
import Derived.Test.YteaoclpikdmkiaaOv
import Derived.Test.YteaoclpikdmkiaaNn
namespace Go.Proofs.Yteaoclpikdmkiaa
open Go Go.RowKit Go.Tl
set_option linter.unusedVariables false
set_option linter.unusedSimpArgs false
/-- the least and the greatest of what S says -/
structure IsB (S : Int → Prop) (x : Int × Int) : Prop where
  lo : S x.1
  hi : S x.2
  bd : ∀ v, S v → x.1 ≤ v ∧ v ≤ x.2
theorem isB_one {S : Int → Prop} {x y : Int × Int} (hx : IsB S x) (hy : IsB S y) : x = y := by
  have h1 := hx.bd _ hy.lo
  have h2 := hx.bd _ hy.hi
  have h3 := hy.bd _ hx.lo
  have h4 := hy.bd _ hx.hi
  exact Prod.ext (by omega) (by omega)
theorem isB_wid {S : Int → Prop} {x : Int × Int} (h : IsB S x) (n : Int) : IsB (fun v => S v ∨ v = n) (min x.1 n, max x.2 n) := by
  refine ⟨?_, ?_, fun v hv => ?_⟩
  · show S (min x.1 n) ∨ min x.1 n = n
    by_cases c : x.1 ≤ n
    · left; rw [Int.min_eq_left c]; exact h.lo
    · right; omega
  · show S (max x.2 n) ∨ max x.2 n = n
    by_cases c : n ≤ x.2
    · left; rw [Int.max_eq_left c]; exact h.hi
    · right; omega
  · show min x.1 n ≤ v ∧ v ≤ max x.2 n
    rcases hv with hv | rfl
    · have := h.bd v hv; omega
    · omega
theorem isB_iff {S S' : Int → Prop} {x : Int × Int} (e : ∀ v, S v ↔ S' v) (h : IsB S x) : IsB S' x := ⟨(e _).1 h.lo, (e _).1 h.hi, fun v hv => h.bd v ((e v).2 hv)⟩
theorem bnd_isB (f : Leaf → Int) : ∀ vs : List Leaf, vs ≠ [] → (bndL f vs).1 = false ∧ IsB (fun v => ∃ x ∈ vs, f x = v) (bndL f vs).2 := fun vs => by
  have key : ∀ us : List Leaf, (bndL f us.reverse).1 = us.isEmpty ∧ (us ≠ [] → IsB (fun v => ∃ x ∈ us.reverse, f x = v) (bndL f us.reverse).2) := fun us => by
    induction us with
    | nil => exact ⟨rfl, fun h => absurd rfl h⟩
    | cons x us ih =>
      rw [List.reverse_cons, bnd_snoc]
      refine ⟨rfl, fun _ => ?_⟩
      rw [ih.1]
      cases us with
      | nil =>
        show IsB _ (f x, f x)
        exact ⟨⟨x, by simp, rfl⟩, ⟨x, by simp, rfl⟩, fun v ⟨y, hy, e⟩ => by
          have : y = x := by simpa using hy
          subst this; subst e; exact ⟨Int.le_refl _, Int.le_refl _⟩⟩
      | cons z us =>
        have h := isB_wid (ih.2 (by simp)) (f x)
        refine isB_iff (fun v => ?_) h
        constructor
        · rintro (⟨y, hy, e⟩ | e)
          · exact ⟨y, List.mem_append_left _ hy, e⟩
          · exact ⟨x, by simp, e.symm⟩
        · rintro ⟨y, hy, e⟩
          rcases List.mem_append.1 hy with hy | hy
          · exact .inl ⟨y, hy, e⟩
          · have : y = x := by simpa using hy
            subst this; exact .inr e.symm
  intro hne
  have h := key vs.reverse
  rw [List.reverse_reverse] at h
  have hne' : vs.reverse ≠ [] := fun e => hne (by simpa using e)
  refine ⟨?_, h.2 hne'⟩
  rw [h.1]
  cases hr : vs.reverse with
  | nil => exact absurd hr hne'
  | cons => rfl
/-- bounds over the first numbers -/
def rB (g : Nat → Int) : Nat → Int × Int
  | 0 => (0, 0)
  | m + 1 => if m = 0 then (g m, g m) else (min (rB g m).1 (g m), max (rB g m).2 (g m))
theorem rB_isB (g : Nat → Int) : ∀ m, IsB (fun v => ∃ n, n < m + 1 ∧ g n = v) (rB g (m + 1))
  | 0 => ⟨⟨0, by omega, rfl⟩, ⟨0, by omega, rfl⟩, fun v ⟨n, hn, e⟩ => by
      obtain rfl : n = 0 := by omega
      subst e; exact ⟨Int.le_refl _, Int.le_refl _⟩⟩
  | m + 1 => by
    have h := isB_wid (rB_isB g m) (g (m + 1))
    have e : rB g (m + 1 + 1) = (min (rB g (m + 1)).1 (g (m + 1)), max (rB g (m + 1)).2 (g (m + 1))) := if_neg (by omega)
    rw [e]
    refine isB_iff (fun v => ?_) h
    constructor
    · rintro (⟨n, hn, e⟩ | e)
      · exact ⟨n, by omega, e⟩
      · exact ⟨m + 1, by omega, e.symm⟩
    · rintro ⟨n, hn, e⟩
      by_cases c : n = m + 1
      · subst c; exact .inr e.symm
      · exact .inl ⟨n, by omega, e⟩
theorem rB_mem {g : Nat → Int} {x : Int × Int} {m : Nat} (hg : ∀ n, n < m → 0 ≤ g n ∧ g n ≤ 1000000) : 0 ≤ (rB g m).1 ∧ (rB g m).1 ≤ 1000000 ∧ 0 ≤ (rB g m).2 ∧ (rB g m).2 ≤ 1000000 := by
  cases m with
  | zero => simp [rB]
  | succ m =>
    obtain ⟨⟨a, ha, ea⟩, ⟨b, hb, eb⟩, _⟩ := rB_isB g m
    have h1 := hg a ha
    have h2 := hg b hb
    omega
theorem leaves_ne {p : PostD} (hv : VPost p) : leaves p ≠ [] := by
  obtain ⟨x, hx, _⟩ := leaves_complete hv (truth_lo hv)
  intro e
  rw [e] at hx
  cases hx
/-- what is sold at the numbered truth -/
abbrev playI (p : PostD) (n : Nat) : List SaleD := playT p (nthL p n p.ords.length)
/-- over all truths, by number or by leaf: the same bounds -/
theorem bnd_same {p : PostD} (hv : VPost p) {f : Leaf → Int} {g : List SaleD → Int} (e : ∀ t, truthB p t = true → ∀ ms, f (playT p t, ms) = g (playT p t)) {M : Nat} (hM : (M : Int) = manyN p p.ords.length) :
    (bndL f (leaves p)).2 = rB (fun n => g (playI p n)) M := by
  have hm1 := (manyN_bd hv (Nat.le_refl p.ords.length)).1
  obtain ⟨M', rfl⟩ : ∃ q, M = q + 1 := ⟨M - 1, by omega⟩
  refine isB_one (isB_iff (fun v => ?_) (bnd_isB f (leaves p) (leaves_ne hv)).2) (rB_isB _ M')
  constructor
  · rintro ⟨x, hx, ev⟩
    obtain ⟨h1, h2⟩ := leaves_sound hv hx
    obtain ⟨n, hn, et⟩ := nth_all hv h1
    refine ⟨n, by omega, ?_⟩
    show g (playT p (nthL p n p.ords.length)) = v
    rw [et, ← e _ h1 x.2, ← h2]
    exact ev
  · rintro ⟨n, hn, ev⟩
    have ht := nth_truth hv (n := (n : Int)) (by omega)
    obtain ⟨x, hx, h2⟩ := leaves_complete hv ht
    refine ⟨x, hx, ?_⟩
    have : x = (playT p (nthL p n p.ords.length), x.2) := Prod.ext h2 rfl
    rw [this, e _ ht x.2]
    exact ev
theorem fillF_same {p : PostD} (hv : VPost p) (i : Nat) {M : Nat} (hM : (M : Int) = manyN p p.ords.length) : (bndL (filF i) (leaves p)).2 = rB (fun n => (filR (playI p n) i (playI p n).length).1) M :=
  bnd_same hv (f := filF i) (g := fun l => (filR l i l.length).1) (fun t ht ms => by
    show (filP (playT p t) i (playT p t).length).1 = _
    rw [fil_eq (fun s hs => sok_ne (play_sok hv ht s hs)) i _ (Nat.le_refl _)]) hM
theorem fillM_same {p : PostD} (hv : VPost p) (i : Nat) {M : Nat} (hM : (M : Int) = manyN p p.ords.length) : (bndL (filM i) (leaves p)).2 = rB (fun n => (filR (playI p n) i (playI p n).length).2) M :=
  bnd_same hv (f := filM i) (g := fun l => (filR l i l.length).2) (fun t ht ms => by
    show (filP (playT p t) i (playT p t).length).2 = _
    rw [fil_eq (fun s hs => sok_ne (play_sok hv ht s hs)) i _ (Nat.le_refl _)]) hM
end Go.Proofs.Yteaoclpikdmkiaa
