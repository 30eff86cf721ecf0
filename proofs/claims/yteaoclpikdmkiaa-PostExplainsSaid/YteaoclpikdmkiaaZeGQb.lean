/- Joined texts: Pa, Qa, Qb. -/
import Derived.Test.YteaoclpikdmkiaaZeOe
import Derived.Test.YteaoclpikdmkiaaZeOc
import Derived.Test.YteaoclpikdmkiaaZeOq
section
namespace Go.Proofs.Yteaoclpikdmkiaa
open Go Go.RowKit Go.Tl
set_option linter.unusedVariables false
set_option linter.unusedSimpArgs false
theorem leaves_ne2 {p : PostD} (hv : VPost p) : leaves p ≠ [] := by
  obtain ⟨x, hx, _⟩ := leaves_complete hv (truth_lo hv)
  intro e
  rw [e] at hx
  cases hx
end Go.Proofs.Yteaoclpikdmkiaa
end
section
namespace Go.Proofs.Yteaoclpikdmkiaa
open Go Go.RowKit Go.Tl
set_option linter.unusedVariables false
set_option linter.unusedSimpArgs false
/-- a list of numbers that rise, from one on -/
def Ext (n : Int) (e : List Int) (fr : Int) : Prop := (∀ x ∈ e, fr ≤ x ∧ x < n) ∧ e.Pairwise (· < ·)
theorem ext_iff {n : Int} {e : List Int} {fr : Int} : Ext n e fr ↔ (∀ x ∈ e, fr ≤ x ∧ x < n) ∧ e.Pairwise (· < ·) := Iff.rfl
theorem ext_nil {n fr : Int} : Ext n [] fr := ⟨(fun x hx => by cases hx), List.Pairwise.nil⟩
theorem ext_cons {n y fr : Int} {e : List Int} : Ext n (y :: e) fr ↔ fr ≤ y ∧ y < n ∧ Ext n e (y + 1) := by
  simp only [Ext, List.pairwise_cons, List.mem_cons, forall_eq_or_imp]
  constructor
  · rintro ⟨⟨⟨h1, h2⟩, h3⟩, h4, h5⟩
    exact ⟨h1, h2, fun x hx => by have := h3 x hx; have := h4 x hx; omega, h5⟩
  · rintro ⟨h1, h2, h3, h4⟩
    exact ⟨⟨⟨h1, h2⟩, fun x hx => by have := h3 x hx; omega⟩, fun x hx => by have := h3 x hx; omega, h4⟩
/-- two lists that rise and have the same numbers are equal -/
theorem asc_eq : ∀ {a c : List Int}, a.Pairwise (· < ·) → c.Pairwise (· < ·) → (∀ x, x ∈ a ↔ x ∈ c) → a = c
  | [], [], _, _, _ => rfl
  | [], y :: c, _, _, h => by have := (h y).2 (List.mem_cons_self); cases this
  | x :: a, [], _, _, h => by have := (h x).1 (List.mem_cons_self); cases this
  | x :: a, y :: c, h1, h2, h => by
    rw [List.pairwise_cons] at h1 h2
    have e : x = y := by
      have hx := (h x).1 List.mem_cons_self
      have hy := (h y).2 List.mem_cons_self
      rcases List.mem_cons.1 hx with hx | hx
      · exact hx
      rcases List.mem_cons.1 hy with hy | hy
      · exact hy.symm
      have := h2.1 x hx
      have := h1.1 y hy
      omega
    subst e
    rw [asc_eq h1.2 h2.2 fun z => ⟨fun hz => ?_, fun hz => ?_⟩]
    · rcases List.mem_cons.1 ((h z).1 (List.mem_cons_of_mem _ hz)) with e | e
      · have := h1.1 z hz; omega
      · exact e
    · rcases List.mem_cons.1 ((h z).2 (List.mem_cons_of_mem _ hz)) with e | e
      · have := h2.1 z hz; omega
      · exact e
def lexL : List Int → List Int → Prop
  | x :: a, y :: c => x < y ∨ (x = y ∧ lexL a c)
  | _, _ => False
def lessL (a c : List Int) : Prop := a.length < c.length ∨ (a.length = c.length ∧ lexL a c)
theorem lex_irr : ∀ a, ¬ lexL a a
  | [] => fun h => h
  | x :: a => fun h => by rcases h with h | ⟨_, h⟩; exact absurd h (Int.lt_irrefl _); exact lex_irr a h
theorem lex_trans : ∀ {a c d}, lexL a c → lexL c d → lexL a d
  | _ :: _, _ :: _, _ :: _, h1, h2 => by
    rcases h1 with h1 | ⟨h1, h3⟩ <;> rcases h2 with h2 | ⟨h2, h4⟩
    · exact .inl (by omega)
    · exact .inl (by omega)
    · exact .inl (by omega)
    · exact .inr ⟨by omega, lex_trans h3 h4⟩
  | [], _, _, h1, _ => h1.elim
  | _ :: _, [], _, h1, _ => h1.elim
  | _ :: _, _ :: _, [], _, h2 => h2.elim
theorem lex_tri : ∀ {a c : List Int}, a.length = c.length → lexL a c ∨ a = c ∨ lexL c a
  | [], [], _ => .inr (.inl rfl)
  | [], _ :: _, h => by cases h
  | _ :: _, [], h => by cases h
  | x :: a, y :: c, h => by
    rcases Int.lt_trichotomy x y with e | e | e
    · exact .inl (.inl e)
    · rcases lex_tri (a := a) (c := c) (by simpa using h) with h2 | h2 | h2
      · exact .inl (.inr ⟨e, h2⟩)
      · exact .inr (.inl (by rw [e, h2]))
      · exact .inr (.inr (.inr ⟨e.symm, h2⟩))
    · exact .inr (.inr (.inl e))
theorem less_irr (a : List Int) : ¬ lessL a a := fun h => by rcases h with h | ⟨_, h⟩; exact absurd h (Nat.lt_irrefl _); exact lex_irr a h
theorem less_trans {a c d : List Int} (h1 : lessL a c) (h2 : lessL c d) : lessL a d := by
  rcases h1 with h1 | ⟨h1, h3⟩ <;> rcases h2 with h2 | ⟨h2, h4⟩
  · exact .inl (by omega)
  · exact .inl (by omega)
  · exact .inl (by omega)
  · exact .inr ⟨by omega, lex_trans h3 h4⟩
theorem less_tri (a c : List Int) : lessL a c ∨ a = c ∨ lessL c a := by
  rcases Nat.lt_trichotomy a.length c.length with e | e | e
  · exact .inl (.inl e)
  · rcases lex_tri e with h | h | h
    · exact .inl (.inr ⟨e, h⟩)
    · exact .inr (.inl h)
    · exact .inr (.inr (.inr ⟨e.symm, h⟩))
  · exact .inr (.inr (.inl e))
/-- the members of a list -/
def inL (e : List Int) (i : Nat) : Bool := e.contains (i : Int)
theorem inL_iff {e : List Int} {i : Nat} : inL e i = true ↔ (i : Int) ∈ e := by unfold inL; simp
/-- the numbers of bits -/
def bitsL (m : Nat) : Nat → List Int
  | 0 => []
  | k + 1 => bitsL m k ++ if m.testBit k then [(k : Int)] else []
theorem bits_mem {m : Nat} {x : Int} : ∀ {k : Nat}, x ∈ bitsL m k ↔ ∃ i : Nat, x = i ∧ i < k ∧ m.testBit i = true
  | 0 => ⟨(fun h => by cases h), (fun ⟨i, _, h, _⟩ => absurd h (Nat.not_lt_zero _))⟩
  | k + 1 => by
    simp only [bitsL, List.mem_append, bits_mem (k := k)]
    constructor
    · rintro (⟨i, h1, h2, h3⟩ | h)
      · exact ⟨i, h1, by omega, h3⟩
      · split at h
        · rename_i e
          exact ⟨k, List.mem_singleton.1 h, Nat.lt_succ_self _, e⟩
        · cases h
    · rintro ⟨i, h1, h2, h3⟩
      by_cases c : i = k
      · subst c
        right
        rw [if_pos h3]
        exact List.mem_singleton.2 h1
      · exact .inl ⟨i, h1, by omega, h3⟩
theorem bits_asc (m : Nat) : ∀ k, (bitsL m k).Pairwise (· < ·)
  | 0 => .nil
  | k + 1 => by
    simp only [bitsL]
    rw [List.pairwise_append]
    refine ⟨bits_asc m k, by split <;> simp, fun x hx y hy => ?_⟩
    obtain ⟨i, h1, h2, _⟩ := bits_mem.1 hx
    split at hy
    · have := List.mem_singleton.1 hy; omega
    · cases hy
theorem test_lt {m n i : Nat} (hm : m < 2 ^ n) (h : m.testBit i = true) : i < n := by
  refine Classical.byContradiction fun hn => ?_
  have : m.testBit i = false := Nat.testBit_lt_two_pow (Nat.lt_of_lt_of_le hm (Nat.pow_le_pow_right (by omega) (by omega)))
  rw [this] at h
  cases h
theorem bits_ext {m n : Nat} (hm : m < 2 ^ n) (hn : n ≤ 16) : Ext n (bitsL m 16) 0 := by
  refine ext_iff.2 ⟨fun x hx => ?_, bits_asc m 16⟩
  obtain ⟨i, h1, _, h3⟩ := bits_mem.1 hx
  have := test_lt hm h3
  omega
theorem bits_in {m n : Nat} (hm : m < 2 ^ n) (hn : n ≤ 16) (i : Nat) : inL (bitsL m 16) i = m.testBit i := by
  cases e : m.testBit i
  · cases e2 : inL (bitsL m 16) i
    · rfl
    · obtain ⟨j, h1, _, h3⟩ := bits_mem.1 (inL_iff.1 e2)
      obtain rfl : i = j := by omega
      rw [e] at h3; cases h3
  · exact inL_iff.2 (bits_mem.2 ⟨i, rfl, by have := test_lt hm e; omega, e⟩)
/-- the bits of a list -/
def maskL : List Int → Nat → Nat
  | _, 0 => 0
  | e, k + 1 => maskL e k ||| 2 ^ (e.getD k 0).toNat
theorem mask_bit {e : List Int} {v : Nat} : ∀ {k : Nat}, k ≤ e.length → (∀ x ∈ e, 0 ≤ x) → ((maskL e k).testBit v = true ↔ ∃ j, j < k ∧ e.getD j 0 = v)
  | 0, _, _ => by simp [maskL]
  | k + 1, hk, h0 => by
    have hx := h0 _ (getD_mem (d := (0 : Int)) (show k < e.length by omega))
    simp only [maskL, Nat.testBit_or, Bool.or_eq_true, mask_bit (v := v) (k := k) (by omega) h0, Nat.testBit_two_pow, decide_eq_true_eq]
    constructor
    · rintro (⟨j, h1, h2⟩ | h)
      · exact ⟨j, by omega, h2⟩
      · exact ⟨k, Nat.lt_succ_self _, by omega⟩
    · rintro ⟨j, h1, h2⟩
      by_cases c : j = k
      · subst c; right; omega
      · exact .inl ⟨j, by omega, h2⟩
theorem mask_lt {e : List Int} {n : Nat} (he : ∀ x ∈ e, 0 ≤ x ∧ x < n) : ∀ k, k ≤ e.length → maskL e k < 2 ^ n
  | 0, _ => Nat.two_pow_pos n
  | k + 1, hk => by
    have hx := he _ (getD_mem (d := (0 : Int)) (show k < e.length by omega))
    exact Nat.or_lt_two_pow (mask_lt he k (by omega)) (Nat.pow_lt_pow_right (by omega) (by omega))
theorem mask_in {e : List Int} {n : Nat} (he : Ext n e 0) (i : Nat) : (maskL e e.length).testBit i = inL e i := by
  have h0 := (ext_iff.1 he).1
  have h1 := mask_bit (v := i) (Nat.le_refl e.length) (fun x hx => (h0 x hx).1)
  cases c : inL e i
  · cases c2 : (maskL e e.length).testBit i
    · rfl
    · obtain ⟨j, hj, ej⟩ := h1.1 c2
      have : inL e i = true := inL_iff.2 (by rw [← ej]; exact getD_mem hj)
      rw [c] at this; cases this
  · refine h1.2 ?_
    obtain ⟨j, hj, ej⟩ := List.mem_iff_getElem.1 (inL_iff.1 c)
    exact ⟨j, hj, by simp [List.getD_eq_getElem?_getD, hj, ej]⟩
theorem bits_mask {e : List Int} {n : Nat} (he : Ext n e 0) (hn : n ≤ 16) : bitsL (maskL e e.length) 16 = e := by
  have hm := mask_lt (ext_iff.1 he).1 e.length (Nat.le_refl _)
  refine asc_eq (bits_asc _ _) (ext_iff.1 he).2 fun x => ⟨fun hx => ?_, fun hx => ?_⟩
  · obtain ⟨i, rfl, _, h3⟩ := bits_mem.1 hx
    rw [mask_in he] at h3
    exact inL_iff.1 h3
  · have := (ext_iff.1 he).1 x hx
    obtain ⟨i, rfl⟩ : ∃ i : Nat, x = i := ⟨x.toNat, by omega⟩
    exact bits_mem.2 ⟨i, rfl, by omega, by rw [mask_in he]; exact inL_iff.2 hx⟩
end Go.Proofs.Yteaoclpikdmkiaa
end
section
namespace Go.Proofs.Yteaoclpikdmkiaa
open Go Go.RowKit Go.Tl
set_option linter.unusedVariables false
set_option linter.unusedSimpArgs false
theorem natsI_cons (j : Nat) (e : List Nat) : natsI (j :: e) = (j : Int) :: natsI e := rfl
theorem ext_room {n : Int} : ∀ {e : List Int} {fr : Int}, Ext n e fr → fr ≤ n → fr + e.length ≤ n
  | [], fr, _, h => by simpa using h
  | y :: e, fr, h, _ => by
    obtain ⟨h1, h2, h3⟩ := ext_cons.1 h
    have := ext_room h3 (by omega)
    rw [List.length_cons]
    omega
theorem combos_mem {n : Nat} : ∀ {m i : Nat} {e : List Nat}, e ∈ combosL n m i ↔ e.length = m ∧ Ext n (natsI e) i
  | 0, i, e => by
    simp only [combosL, List.mem_singleton]
    constructor
    · rintro rfl; exact ⟨rfl, ext_nil⟩
    · intro h; exact List.length_eq_zero_iff.1 h.1
  | m + 1, i, e => by
    simp only [combosL, List.mem_flatMap, List.mem_range', List.mem_map]
    constructor
    · rintro ⟨j, ⟨d, hd, rfl⟩, e', he', rfl⟩
      obtain ⟨h1, h2⟩ := combos_mem.1 he'
      refine ⟨by simp [h1], ?_⟩
      rw [natsI_cons, ext_cons]
      refine ⟨by omega, by omega, ?_⟩
      have : ((i + 1 * d : Nat) : Int) + 1 = ((i + 1 * d + 1 : Nat) : Int) := by omega
      rw [this]; exact h2
    · rintro ⟨h1, h2⟩
      cases e with
      | nil => cases h1
      | cons j e =>
        rw [natsI_cons, ext_cons] at h2
        obtain ⟨h3, h4, h5⟩ := h2
        have h1' : e.length = m := by simpa using h1
        have hb := ext_room h5 (by omega)
        rw [natsI_len] at hb
        refine ⟨j, ⟨j - i, by omega, by omega⟩, e, combos_mem.2 ⟨h1', ?_⟩, rfl⟩
        have : ((j + 1 : Nat) : Int) = (j : Int) + 1 := by omega
        rw [this]; exact h5
theorem combos_srt {n : Nat} : ∀ {m i : Nat}, (combosL n m i).Pairwise fun a b => lexL (natsI a) (natsI b)
  | 0, i => by simp [combosL]
  | m + 1, i => by
    simp only [combosL]
    rw [List.pairwise_flatMap]
    refine ⟨fun j _ => ?_, ?_⟩
    · rw [List.pairwise_map]
      refine List.Pairwise.imp ?_ (combos_srt (n := n) (m := m) (i := j + 1))
      intro a b h
      exact .inr ⟨rfl, h⟩
    · have h1 : (List.range' i (n - m - i)).Pairwise (· < ·) := List.pairwise_lt_range'
      refine List.Pairwise.imp ?_ h1
      intro a b hab x hx y hy
      obtain ⟨x', _, rfl⟩ := List.mem_map.1 hx
      obtain ⟨y', _, rfl⟩ := List.mem_map.1 hy
      exact .inl (by show ((a : Nat) : Int) < ((b : Nat) : Int); omega)
theorem sizes_mem {n : Nat} {e : List Nat} : e ∈ sizesL n 0 ↔ Ext n (natsI e) 0 := by
  unfold sizesL
  simp only [List.mem_flatMap, List.mem_range']
  constructor
  · rintro ⟨m, _, h⟩
    exact (combos_mem.1 h).2
  · intro h
    have := ext_room h (Int.natCast_nonneg n)
    rw [natsI_len] at this
    exact ⟨e.length, ⟨e.length, by omega, by omega⟩, combos_mem.2 ⟨rfl, h⟩⟩
theorem sizes_srt (n : Nat) : (sizesL n 0).Pairwise fun a b => lessL (natsI a) (natsI b) := by
  unfold sizesL
  rw [List.pairwise_flatMap]
  refine ⟨fun m _ => ?_, ?_⟩
  · refine List.Pairwise.imp_of_mem ?_ (combos_srt (n := n) (m := m) (i := 0))
    intro a b ha hb h
    exact .inr ⟨by rw [natsI_len, natsI_len, (combos_mem.1 ha).1, (combos_mem.1 hb).1], h⟩
  · refine List.Pairwise.imp ?_ (List.pairwise_lt_range' (s := 0) (n := n + 1 - 0))
    intro a b hab x hx y hy
    exact .inl (by rw [natsI_len, natsI_len, (combos_mem.1 hx).1, (combos_mem.1 hy).1]; exact hab)
/-- whether some truth explains the records without some -/
noncomputable def canI (p : PostD) (l : List SaleD) (s : List Int) : Bool := (leaves p).any fun x => explB (recF l s) x.1
/-- the smallest list without which some truth explains the records -/
structure MinR (p : PostD) (l : List SaleD) (s : List Int) : Prop where
  ext : Ext l.length s 0
  en : canI p l s = true
  min : ∀ e, Ext l.length e 0 → canI p l e = true → ¬ lessL e s
theorem minR_unique {p : PostD} {l : List SaleD} {s t : List Int} (h1 : MinR p l s) (h2 : MinR p l t) : s = t := by
  rcases less_tri s t with h | h | h
  · exact absurd h (h2.min s h1.ext h1.en)
  · exact h
  · exact absurd h (h1.min t h2.ext h2.en)
theorem recN_full (l : List SaleD) {out : List Int} (s : SaleD) : ∀ k : Nat, (∀ j : Nat, j < k → (j : Int) ∈ out) → recN l out s k = 0
  | 0, _ => rfl
  | k + 1, h => by
    simp only [recN]
    rw [if_neg (fun h' => h'.1 (h k (Nat.lt_succ_self k)))]
    exact recN_full l s k (fun j hj => h j (by omega))
theorem canI_full {p : PostD} (hv : VPost p) (l : List SaleD) : canI p l (natsI (List.range l.length)) = true := by
  obtain ⟨x, hx⟩ := List.exists_mem_of_ne_nil _ (leaves_ne2 hv)
  refine List.any_eq_true.2 ⟨x, hx, expl_iff.2 fun s => ?_⟩
  have h0 : recF l (natsI (List.range l.length)) s = 0 := recN_full l s l.length fun j hj => List.mem_map.2 ⟨j, List.mem_range.2 hj, rfl⟩
  rw [h0]
  exact (cnt_bd x.1 s x.1.length).1
theorem range_ext (n : Nat) : Ext n (natsI (List.range n)) 0 := by
  refine ext_iff.2 ⟨fun x hx => ?_, ?_⟩
  · obtain ⟨i, hi, rfl⟩ := List.mem_map.1 hx
    have := List.mem_range.1 hi
    exact ⟨Int.natCast_nonneg i, by show (i : Int) < n; omega⟩
  · unfold natsI
    rw [List.pairwise_map]
    exact List.Pairwise.imp (fun h => by omega) List.pairwise_lt_range
theorem natsI_of {n : Int} {e : List Int} (h : Ext n e 0) : natsI (e.map Int.toNat) = e := by
  unfold natsI
  rw [List.map_map]
  conv => rhs; rw [← List.map_id e]
  refine List.map_congr_left fun x hx => ?_
  have := (ext_iff.1 h).1 x hx
  show ((x.toNat : Nat) : Int) = x
  omega
theorem leave_min {p : PostD} (hv : VPost p) {l : List SaleD} (h : recdN p l = 0) : ∃ s, leaveR p l = (s, 0) ∧ MinR p l s := by
  unfold leaveR
  rw [if_neg (fun h' => h' h)]
  unfold leR
  cases hf : (sizesL l.length 0).find? (fun e => canB p l ([] ++ e)) with
  | none =>
    exfalso
    have := List.find?_eq_none.1 hf (List.range l.length) (sizes_mem.2 (range_ext _))
    exact this (canI_full hv l)
  | some e =>
    obtain ⟨h1, l1, l2, h2, h3⟩ := List.find?_eq_some_iff_append.1 hf
    have hs := sizes_srt l.length
    rw [h2] at hs
    refine ⟨natsI e, rfl, ?_, h1, fun d hd hc hl => ?_⟩
    · exact sizes_mem.1 (by rw [h2]; simp)
    · have hd' := natsI_of hd
      have hm : d.map Int.toNat ∈ sizesL l.length 0 := sizes_mem.2 (by rw [hd']; exact hd)
      rw [h2] at hm
      rcases List.mem_append.1 hm with hm | hm
      · have h4 := h3 _ hm
        have h5 : canB p l ([] ++ d.map Int.toNat) = true := by
          show canI p l (natsI (d.map Int.toNat)) = true
          rw [hd']; exact hc
        rw [h5] at h4
        cases h4
      · rcases List.mem_cons.1 hm with hm | hm
        · rw [← hm, hd'] at hl
          exact less_irr _ hl
        · have := (List.pairwise_cons.1 (List.pairwise_append.1 hs).2.1).1 _ hm
          rw [hd'] at this
          exact less_irr _ (less_trans hl this)
theorem leave_bad {p : PostD} {l : List SaleD} (h : recdN p l ≠ 0) : leaveR p l = ([], recdN p l) := by
  unfold leaveR
  rw [if_pos h]
theorem explain_can {p : PostD} (hv : VPost p) {l : List SaleD} (h : recdN p l = 0) (hc : canI p l [] = true) : ∃ t, explainR p l = (t, 0) ∧ truthB p t = true ∧ explB (recF l []) (playT p t) = true := by
  have ha : ((leaves p).any fun x => explB (recF l []) x.1) = true := hc
  obtain ⟨x, hx, hq, e⟩ := last_leaf ha
  obtain ⟨h1, h2⟩ := leaves_sound hv hx
  refine ⟨x.2, ?_, h1, ?_⟩
  · unfold explainR
    rw [if_neg (fun h' => h' h), if_pos ha, e]
  · rw [← h2]; exact hq
theorem explain_no {p : PostD} {l : List SaleD} (h : recdN p l = 0) (hc : canI p l [] = false) : explainR p l = ([], 11) := by
  have ha : ((leaves p).any fun x => explB (recF l []) x.1) = false := hc
  unfold explainR
  rw [if_neg (fun h' => h' h), ha]
  exact if_neg Bool.false_ne_true
theorem explain_bad {p : PostD} {l : List SaleD} (h : recdN p l ≠ 0) : explainR p l = ([], recdN p l) := by
  unfold explainR
  rw [if_pos h]
end Go.Proofs.Yteaoclpikdmkiaa
end
