/- Lists of numbers that rise, bits, and the first list of some that serves: plain. -/
import Derived.Test.YtallicfckbdeaaaGHf
import Derived.Test.YtallicfckbdeaaaGOb
namespace Go.Proofs.Ytallicfckbdeaaa
open Go Go.RowKit Go.Tl
set_option linter.unusedVariables false
set_option linter.unusedSimpArgs false
/-- a list of numbers that rise, from one on -/
def Ext (n : Int) (e : List Int) (fr : Int) : Prop := (∀ x ∈ e, fr ≤ x ∧ x < n) ∧ e.Pairwise (· < ·)
theorem ext_iff {n : Int} {e : List Int} {fr : Int} : Ext n e fr ↔ (∀ x ∈ e, fr ≤ x ∧ x < n) ∧ e.Pairwise (· < ·) := Iff.rfl
theorem ext_nil {n fr : Int} : Ext n [] fr := ⟨(fun x hx => by cases hx), List.Pairwise.nil⟩
theorem ext_cons {n y fr : Int} {e : List Int} : Ext n (y :: e) fr ↔ fr ≤ y ∧ y < n ∧ Ext n e (y + 1) := by
  simp only [Ext, List.pairwise_cons, List.mem_cons, forall_eq_or_imp]
  constructor
  · rintro ⟨⟨⟨h1, h2⟩, h3⟩, h4, h5⟩
    exact ⟨h1, h2, fun x hx => by have := h3 x hx; have := h4 x hx; omega, h5⟩
  · rintro ⟨h1, h2, h3, h4⟩
    exact ⟨⟨⟨h1, h2⟩, fun x hx => by have := h3 x hx; omega⟩, fun x hx => by have := h3 x hx; omega, h4⟩
/-- two lists that rise and have the same numbers are equal -/
theorem asc_eq : ∀ {a c : List Int}, a.Pairwise (· < ·) → c.Pairwise (· < ·) → (∀ x, x ∈ a ↔ x ∈ c) → a = c
  | [], [], _, _, _ => rfl
  | [], y :: c, _, _, h => by have := (h y).2 (List.mem_cons_self); cases this
  | x :: a, [], _, _, h => by have := (h x).1 (List.mem_cons_self); cases this
  | x :: a, y :: c, h1, h2, h => by
    rw [List.pairwise_cons] at h1 h2
    have e : x = y := by
      have hx := (h x).1 List.mem_cons_self
      have hy := (h y).2 List.mem_cons_self
      rcases List.mem_cons.1 hx with hx | hx
      · exact hx
      rcases List.mem_cons.1 hy with hy | hy
      · exact hy.symm
      have := h2.1 x hx
      have := h1.1 y hy
      omega
    subst e
    rw [asc_eq h1.2 h2.2 fun z => ⟨fun hz => ?_, fun hz => ?_⟩]
    · rcases List.mem_cons.1 ((h z).1 (List.mem_cons_of_mem _ hz)) with e | e
      · have := h1.1 z hz; omega
      · exact e
    · rcases List.mem_cons.1 ((h z).2 (List.mem_cons_of_mem _ hz)) with e | e
      · have := h2.1 z hz; omega
      · exact e
def lexL : List Int → List Int → Prop
  | x :: a, y :: c => x < y ∨ (x = y ∧ lexL a c)
  | _, _ => False
def lessL (a c : List Int) : Prop := a.length < c.length ∨ (a.length = c.length ∧ lexL a c)
theorem lex_irr : ∀ a, ¬ lexL a a
  | [] => fun h => h
  | x :: a => fun h => by rcases h with h | ⟨_, h⟩; exact absurd h (Int.lt_irrefl _); exact lex_irr a h
theorem lex_trans : ∀ {a c d}, lexL a c → lexL c d → lexL a d
  | _ :: _, _ :: _, _ :: _, h1, h2 => by
    rcases h1 with h1 | ⟨h1, h3⟩ <;> rcases h2 with h2 | ⟨h2, h4⟩
    · exact .inl (by omega)
    · exact .inl (by omega)
    · exact .inl (by omega)
    · exact .inr ⟨by omega, lex_trans h3 h4⟩
  | [], _, _, h1, _ => h1.elim
  | _ :: _, [], _, h1, _ => h1.elim
  | _ :: _, _ :: _, [], _, h2 => h2.elim
theorem lex_tri : ∀ {a c : List Int}, a.length = c.length → lexL a c ∨ a = c ∨ lexL c a
  | [], [], _ => .inr (.inl rfl)
  | [], _ :: _, h => by cases h
  | _ :: _, [], h => by cases h
  | x :: a, y :: c, h => by
    rcases Int.lt_trichotomy x y with e | e | e
    · exact .inl (.inl e)
    · rcases lex_tri (a := a) (c := c) (by simpa using h) with h2 | h2 | h2
      · exact .inl (.inr ⟨e, h2⟩)
      · exact .inr (.inl (by rw [e, h2]))
      · exact .inr (.inr (.inr ⟨e.symm, h2⟩))
    · exact .inr (.inr (.inl e))
theorem less_irr (a : List Int) : ¬ lessL a a := fun h => by rcases h with h | ⟨_, h⟩; exact absurd h (Nat.lt_irrefl _); exact lex_irr a h
theorem less_trans {a c d : List Int} (h1 : lessL a c) (h2 : lessL c d) : lessL a d := by
  rcases h1 with h1 | ⟨h1, h3⟩ <;> rcases h2 with h2 | ⟨h2, h4⟩
  · exact .inl (by omega)
  · exact .inl (by omega)
  · exact .inl (by omega)
  · exact .inr ⟨by omega, lex_trans h3 h4⟩
theorem less_tri (a c : List Int) : lessL a c ∨ a = c ∨ lessL c a := by
  rcases Nat.lt_trichotomy a.length c.length with e | e | e
  · exact .inl (.inl e)
  · rcases lex_tri e with h | h | h
    · exact .inl (.inr ⟨e, h⟩)
    · exact .inr (.inl h)
    · exact .inr (.inr (.inr ⟨e.symm, h⟩))
  · exact .inr (.inr (.inl e))
/-- the members of a list -/
def inL (e : List Int) (i : Nat) : Bool := e.contains (i : Int)
theorem inL_iff {e : List Int} {i : Nat} : inL e i = true ↔ (i : Int) ∈ e := by unfold inL; simp
/-- the numbers of bits -/
def bitsL (m : Nat) : Nat → List Int
  | 0 => []
  | k + 1 => bitsL m k ++ if m.testBit k then [(k : Int)] else []
theorem bits_mem {m : Nat} {x : Int} : ∀ {k : Nat}, x ∈ bitsL m k ↔ ∃ i : Nat, x = i ∧ i < k ∧ m.testBit i = true
  | 0 => ⟨(fun h => by cases h), (fun ⟨i, _, h, _⟩ => absurd h (Nat.not_lt_zero _))⟩
  | k + 1 => by
    simp only [bitsL, List.mem_append, bits_mem (k := k)]
    constructor
    · rintro (⟨i, h1, h2, h3⟩ | h)
      · exact ⟨i, h1, by omega, h3⟩
      · split at h
        · rename_i e
          exact ⟨k, List.mem_singleton.1 h, Nat.lt_succ_self _, e⟩
        · cases h
    · rintro ⟨i, h1, h2, h3⟩
      by_cases c : i = k
      · subst c
        right
        rw [if_pos h3]
        exact List.mem_singleton.2 h1
      · exact .inl ⟨i, h1, by omega, h3⟩
theorem bits_asc (m : Nat) : ∀ k, (bitsL m k).Pairwise (· < ·)
  | 0 => .nil
  | k + 1 => by
    simp only [bitsL]
    rw [List.pairwise_append]
    refine ⟨bits_asc m k, by split <;> simp, fun x hx y hy => ?_⟩
    obtain ⟨i, h1, h2, _⟩ := bits_mem.1 hx
    split at hy
    · have := List.mem_singleton.1 hy; omega
    · cases hy
theorem test_lt {m n i : Nat} (hm : m < 2 ^ n) (h : m.testBit i = true) : i < n := by
  refine Classical.byContradiction fun hn => ?_
  have : m.testBit i = false := Nat.testBit_lt_two_pow (Nat.lt_of_lt_of_le hm (Nat.pow_le_pow_right (by omega) (by omega)))
  rw [this] at h
  cases h
theorem bits_ext {m n : Nat} (hm : m < 2 ^ n) (hn : n ≤ 16) : Ext n (bitsL m 16) 0 := by
  refine ext_iff.2 ⟨fun x hx => ?_, bits_asc m 16⟩
  obtain ⟨i, h1, _, h3⟩ := bits_mem.1 hx
  have := test_lt hm h3
  omega
theorem bits_in {m n : Nat} (hm : m < 2 ^ n) (hn : n ≤ 16) (i : Nat) : inL (bitsL m 16) i = m.testBit i := by
  cases e : m.testBit i
  · cases e2 : inL (bitsL m 16) i
    · rfl
    · obtain ⟨j, h1, _, h3⟩ := bits_mem.1 (inL_iff.1 e2)
      obtain rfl : i = j := by omega
      rw [e] at h3; cases h3
  · exact inL_iff.2 (bits_mem.2 ⟨i, rfl, by have := test_lt hm e; omega, e⟩)
/-- the bits of a list -/
def maskL : List Int → Nat → Nat
  | _, 0 => 0
  | e, k + 1 => maskL e k ||| 2 ^ (e.getD k 0).toNat
theorem mask_bit {e : List Int} {v : Nat} : ∀ {k : Nat}, k ≤ e.length → (∀ x ∈ e, 0 ≤ x) → ((maskL e k).testBit v = true ↔ ∃ j, j < k ∧ e.getD j 0 = v)
  | 0, _, _ => by simp [maskL]
  | k + 1, hk, h0 => by
    have hx := h0 _ (getD_mem (d := (0 : Int)) (show k < e.length by omega))
    simp only [maskL, Nat.testBit_or, Bool.or_eq_true, mask_bit (v := v) (k := k) (by omega) h0, Nat.testBit_two_pow, decide_eq_true_eq]
    constructor
    · rintro (⟨j, h1, h2⟩ | h)
      · exact ⟨j, by omega, h2⟩
      · exact ⟨k, Nat.lt_succ_self _, by omega⟩
    · rintro ⟨j, h1, h2⟩
      by_cases c : j = k
      · subst c; right; omega
      · exact .inl ⟨j, by omega, h2⟩
theorem mask_lt {e : List Int} {n : Nat} (he : ∀ x ∈ e, 0 ≤ x ∧ x < n) : ∀ k, k ≤ e.length → maskL e k < 2 ^ n
  | 0, _ => Nat.two_pow_pos n
  | k + 1, hk => by
    have hx := he _ (getD_mem (d := (0 : Int)) (show k < e.length by omega))
    exact Nat.or_lt_two_pow (mask_lt he k (by omega)) (Nat.pow_lt_pow_right (by omega) (by omega))
theorem mask_in {e : List Int} {n : Nat} (he : Ext n e 0) (i : Nat) : (maskL e e.length).testBit i = inL e i := by
  have h0 := (ext_iff.1 he).1
  have h1 := mask_bit (v := i) (Nat.le_refl e.length) (fun x hx => (h0 x hx).1)
  cases c : inL e i
  · cases c2 : (maskL e e.length).testBit i
    · rfl
    · obtain ⟨j, hj, ej⟩ := h1.1 c2
      have : inL e i = true := inL_iff.2 (by rw [← ej]; exact getD_mem hj)
      rw [c] at this; cases this
  · refine h1.2 ?_
    obtain ⟨j, hj, ej⟩ := List.mem_iff_getElem.1 (inL_iff.1 c)
    exact ⟨j, hj, by simp [List.getD_eq_getElem?_getD, hj, ej]⟩
theorem bits_mask {e : List Int} {n : Nat} (he : Ext n e 0) (hn : n ≤ 16) : bitsL (maskL e e.length) 16 = e := by
  have hm := mask_lt (ext_iff.1 he).1 e.length (Nat.le_refl _)
  refine asc_eq (bits_asc _ _) (ext_iff.1 he).2 fun x => ⟨fun hx => ?_, fun hx => ?_⟩
  · obtain ⟨i, rfl, _, h3⟩ := bits_mem.1 hx
    rw [mask_in he] at h3
    exact inL_iff.1 h3
  · have := (ext_iff.1 he).1 x hx
    obtain ⟨i, rfl⟩ : ∃ i : Nat, x = i := ⟨x.toNat, by omega⟩
    exact bits_mem.2 ⟨i, rfl, by omega, by rw [mask_in he]; exact inL_iff.2 hx⟩
theorem natsI_cons (j : Nat) (e : List Nat) : natsI (j :: e) = (j : Int) :: natsI e := rfl
theorem ext_room {n : Int} : ∀ {e : List Int} {fr : Int}, Ext n e fr → fr ≤ n → fr + e.length ≤ n
  | [], fr, _, h => by simpa using h
  | y :: e, fr, h, _ => by
    obtain ⟨h1, h2, h3⟩ := ext_cons.1 h
    have := ext_room h3 (by omega)
    rw [List.length_cons]
    omega
theorem range_ext (n : Nat) : Ext n (natsI (List.range n)) 0 := by
  refine ext_iff.2 ⟨fun x hx => ?_, ?_⟩
  · obtain ⟨i, hi, rfl⟩ := List.mem_map.1 hx
    have := List.mem_range.1 hi
    exact ⟨Int.natCast_nonneg i, by show (i : Int) < n; omega⟩
  · unfold natsI
    rw [List.pairwise_map]
    exact List.Pairwise.imp (fun h => by omega) List.pairwise_lt_range
theorem natsI_of {n : Int} {e : List Int} (h : Ext n e 0) : natsI (e.map Int.toNat) = e := by
  unfold natsI
  rw [List.map_map]
  conv => rhs; rw [← List.map_id e]
  refine List.map_congr_left fun x hx => ?_
  have := (ext_iff.1 h).1 x hx
  show ((x.toNat : Nat) : Int) = x
  omega

theorem combC_mem {ok : Nat → Bool} {n : Nat} : ∀ {m i : Nat} {e : List Nat}, e ∈ combC ok n m i ↔ e.length = m ∧ Ext n (natsI e) i ∧ ∀ x ∈ e, ok x = true
  | 0, i, e => by
    simp only [combC, List.mem_singleton]
    constructor
    · rintro rfl; exact ⟨rfl, ext_nil, fun x hx => by cases hx⟩
    · intro h; exact List.length_eq_zero_iff.1 h.1
  | m + 1, i, e => by
    simp only [combC, List.mem_flatMap, List.mem_range']
    constructor
    · rintro ⟨j, ⟨d, hd, rfl⟩, he⟩
      split at he
      · rename_i ho
        obtain ⟨e', he', rfl⟩ := List.mem_map.1 he
        obtain ⟨h1, h2, h3⟩ := combC_mem.1 he'
        refine ⟨by simp [h1], ?_, ?_⟩
        · rw [natsI_cons, ext_cons]
          refine ⟨by omega, by omega, ?_⟩
          have : ((i + 1 * d : Nat) : Int) + 1 = ((i + 1 * d + 1 : Nat) : Int) := by omega
          rw [this]; exact h2
        · intro x hx
          rcases List.mem_cons.1 hx with rfl | hx
          · exact ho
          · exact h3 x hx
      · cases he
    · rintro ⟨h1, h2, ho⟩
      cases e with
      | nil => cases h1
      | cons j e =>
        rw [natsI_cons, ext_cons] at h2
        obtain ⟨h3, h4, h5⟩ := h2
        have h1' : e.length = m := by simpa using h1
        refine ⟨j, ⟨j - i, by omega, by omega⟩, ?_⟩
        rw [if_pos (ho j List.mem_cons_self)]
        refine List.mem_map.2 ⟨e, combC_mem.2 ⟨h1', ?_, fun x hx => ho x (List.mem_cons_of_mem _ hx)⟩, rfl⟩
        have : ((j + 1 : Nat) : Int) = (j : Int) + 1 := by omega
        rw [this]; exact h5
theorem combC_srt {ok : Nat → Bool} {n : Nat} : ∀ {m i : Nat}, (combC ok n m i).Pairwise fun a b => lexL (natsI a) (natsI b)
  | 0, i => by simp [combC]
  | m + 1, i => by
    simp only [combC]
    rw [List.pairwise_flatMap]
    refine ⟨fun j _ => ?_, ?_⟩
    · split
      · rw [List.pairwise_map]
        refine List.Pairwise.imp ?_ (combC_srt (ok := ok) (n := n) (m := m) (i := j + 1))
        intro a b h
        exact .inr ⟨rfl, h⟩
      · exact .nil
    · have h1 : (List.range' i (n - i)).Pairwise (· < ·) := List.pairwise_lt_range'
      refine List.Pairwise.imp ?_ h1
      intro a b hab x hx y hy
      split at hx
      · split at hy
        · obtain ⟨x', _, rfl⟩ := List.mem_map.1 hx
          obtain ⟨y', _, rfl⟩ := List.mem_map.1 hy
          exact .inl (by show ((a : Nat) : Int) < ((b : Nat) : Int); omega)
        · cases hy
      · cases hx
theorem sizesC_mem {ok : Nat → Bool} {n : Nat} {e : List Nat} : e ∈ sizesC ok n 0 ↔ Ext n (natsI e) 0 ∧ ∀ x ∈ e, ok x = true := by
  unfold sizesC
  simp only [List.mem_flatMap, List.mem_range']
  constructor
  · rintro ⟨m, _, h⟩
    exact (combC_mem.1 h).2
  · intro h
    have := ext_room h.1 (Int.natCast_nonneg n)
    rw [natsI_len] at this
    exact ⟨e.length, ⟨e.length, by omega, by omega⟩, combC_mem.2 ⟨rfl, h⟩⟩
theorem sizesC_srt (ok : Nat → Bool) (n : Nat) : (sizesC ok n 0).Pairwise fun a b => lessL (natsI a) (natsI b) := by
  unfold sizesC
  rw [List.pairwise_flatMap]
  refine ⟨fun m _ => ?_, ?_⟩
  · refine List.Pairwise.imp_of_mem ?_ (combC_srt (ok := ok) (n := n) (m := m) (i := 0))
    intro a b ha hb h
    exact .inr ⟨by rw [natsI_len, natsI_len, (combC_mem.1 ha).1, (combC_mem.1 hb).1], h⟩
  · refine List.Pairwise.imp ?_ (List.pairwise_lt_range' (s := 0) (n := n + 1 - 0))
    intro a b hab x hx y hy
    exact .inl (by rw [natsI_len, natsI_len, (combC_mem.1 hx).1, (combC_mem.1 hy).1]; exact hab)
/-- a list of numbers that serve together, the smallest one that does -/
structure MinC (B : List Int → Bool) (ok : Nat → Bool) (n : Nat) (s : List Int) : Prop where
  ext : Ext n s 0
  al : ∀ x ∈ s, ok x.toNat = true
  en : B s = true
  min : ∀ e, Ext n e 0 → (∀ x ∈ e, ok x.toNat = true) → B e = true → ¬ lessL e s
theorem minC_unique {B : List Int → Bool} {ok : Nat → Bool} {n : Nat} {s t : List Int} (h1 : MinC B ok n s) (h2 : MinC B ok n t) : s = t := by
  rcases less_tri s t with h | h | h
  · exact absurd h (h2.min s h1.ext h1.al h1.en)
  · exact h
  · exact absurd h (h1.min t h2.ext h2.al h2.en)
theorem natsI_ok {ok : Nat → Bool} {e : List Nat} : (∀ x ∈ natsI e, ok x.toNat = true) ↔ ∀ x ∈ e, ok x = true := by
  unfold natsI
  constructor
  · intro h x hx
    have := h (x : Int) (List.mem_map.2 ⟨x, hx, rfl⟩)
    simpa using this
  · intro h x hx
    obtain ⟨i, hi, rfl⟩ := List.mem_map.1 hx
    simpa using h i hi
theorem fnd_mem {B : List Int → Bool} {ok : Nat → Bool} {n : Nat} {e : List Int} (he : Ext n e 0) (ho : ∀ x ∈ e, ok x.toNat = true) : e.map Int.toNat ∈ sizesC ok n 0 ∧ natsI (e.map Int.toNat) = e := by
  have hd := natsI_of he
  refine ⟨sizesC_mem.2 ⟨by rw [hd]; exact he, ?_⟩, hd⟩
  rw [← natsI_ok, hd]
  exact ho
theorem fnd_none {B : List Int → Bool} {C : List Nat → Bool} {ok : Nat → Bool} {n : Nat} (hC : ∀ o, C o = B (natsI o)) (h : fndL C [] (sizesC ok n 0) = none) : ∀ e, Ext n e 0 → (∀ x ∈ e, ok x.toNat = true) → B e = false := fun e he ho => by
  obtain ⟨h1, h2⟩ := fnd_mem (B := B) he ho
  unfold fndL at h
  rw [Option.map_eq_none_iff] at h
  have h3 := List.find?_eq_none.1 h _ h1
  cases c : B e
  · rfl
  · refine absurd ?_ h3
    show C ([] ++ e.map Int.toNat) = true
    rw [List.nil_append, hC, h2]
    exact c
theorem fnd_some {B : List Int → Bool} {C : List Nat → Bool} {ok : Nat → Bool} {n : Nat} {e : List Nat} (hC : ∀ o, C o = B (natsI o)) (h : fndL C [] (sizesC ok n 0) = some e) : MinC B ok n (natsI e) := by
  unfold fndL at h
  rw [Option.map_eq_some_iff] at h
  obtain ⟨e', h, rfl⟩ := h
  rw [List.nil_append]
  obtain ⟨h1, l1, l2, h2, h3⟩ := List.find?_eq_some_iff_append.1 h
  have hs := sizesC_srt ok n
  have hm : e' ∈ sizesC ok n 0 := by rw [h2]; simp
  obtain ⟨m1, m2⟩ := sizesC_mem.1 hm
  rw [h2] at hs
  refine ⟨m1, natsI_ok.2 m2, ?_, fun d hd ho hc hl => ?_⟩
  · rw [← hC]; exact h1
  · obtain ⟨k1, k2⟩ := fnd_mem (B := B) hd ho
    rw [h2] at k1
    rcases List.mem_append.1 k1 with hm | hm
    · have h4 := h3 _ hm
      have h5 : C ([] ++ d.map Int.toNat) = true := by
        rw [List.nil_append, hC, k2]
        exact hc
      rw [h5] at h4
      cases h4
    · rcases List.mem_cons.1 hm with hm | hm
      · rw [← hm, k2] at hl
        exact less_irr _ hl
      · have := (List.pairwise_cons.1 (List.pairwise_append.1 hs).2.1).1 _ hm
        rw [k2] at this
        exact less_irr _ (less_trans hl this)
end Go.Proofs.Ytallicfckbdeaaa
