/- Joined texts: Wm, Mm, Pt. -/
import Derived.Test.YtfiacjdkdjkiiaaGWa
import Derived.Test.YtfiacjdkdjkiiaaGCo
section
namespace Go.Proofs.Ytfiacjdkdjkiiaa
open Go.RowKit
set_option linter.unusedVariables false

set_option maxHeartbeats 400000 in

def minL : List Int → Int
  | [] => 0
  | x :: l => l.foldl min x
def maxL : List Int → Int
  | [] => 0
  | x :: l => l.foldl max x
theorem minL_succ {l : List Int} {k : Nat} (h0 : 1 ≤ k) (h : k < l.length) : minL (l.take (k + 1)) = min (minL (l.take k)) (l.getD k 0) := by
  rw [take_succ_getD 0 h]
  cases l with
  | nil => simp at h
  | cons x l => cases k with
    | zero => omega
    | succ k => simp [minL, List.foldl_append]
theorem maxL_succ {l : List Int} {k : Nat} (h0 : 1 ≤ k) (h : k < l.length) : maxL (l.take (k + 1)) = max (maxL (l.take k)) (l.getD k 0) := by
  rw [take_succ_getD 0 h]
  cases l with
  | nil => simp at h
  | cons x l => cases k with
    | zero => omega
    | succ k => simp [maxL, List.foldl_append]
theorem smin_any (a : Option Addr) (cap : Nat) (xs : List Int) (w : World) (hl : xs.length ≤ 1000) (hp : 1 ≤ xs.length) (hx : IntsAt w a xs) :
    Calls Try.prog 97 #[.slice a xs.length cap] w fun e w' => e = .returned (.int .i64 (minL xs)) ∧ w = w' := by
  have HX := Lib.hid hx
  obtain ⟨b0, off0, rfl, c0⟩ := hx 0 hp
  simp only [Nat.add_zero] at c0
  clear hx
  have H1 : Hid (minL (xs.take 1) = xs.getD 0 0) := by
    show minL (xs.take 1) = xs.getD 0 0
    cases xs with
    | nil => simp at hp
    | cons x l => rfl
  generalize hmm : xs.length = m at *
  have HM := Lib.hid hmm
  clear hmm
  generalize xs.getD 0 0 = x0 at *
  go_enter Try.func97, Try.ntmps97
  go_wp2
  go_loop [3, 4] (fun t i => ∃ k : Nat, 1 ≤ k ∧ k ≤ m ∧ i = .int .i64 k ∧ t = .int .i64 (minL (xs.take k))) (fun _ i => m - (intOf i).toNat)
  case atStart => exact ⟨1, Nat.le_refl _, hp, rfl, by rw [H1.out]⟩
  case round =>
    obtain ⟨k, hk1, hk, rfl, rfl⟩ := hrel
    by_cases hlt : k < m
    · have hkx : k < xs.length := by have := HM.out; omega
      obtain ⟨b, off, e, c1⟩ := HX.out k hkx
      simp only [Option.some.injEq, Addr.mk.injEq] at e
      obtain ⟨rfl, rfl, _⟩ := e
      have HE := Lib.hid (minL_succ hk1 hkx)
      clear hkx
      generalize xs.getD k 0 = x at *
      generalize minL (xs.take k) = s at *
      go_wp2
      go_round
      case rel => exact ⟨k + 1, by omega, by omega, by go_num, by rw [HE.out]; congr 1; split <;> omega⟩
      case measure => simp [intOf]; omega
    · have HE : Hid (minL (xs.take k) = minL xs) := by
        show minL (xs.take k) = minL xs
        have := HM.out
        rw [List.take_of_length_le (by omega)]
      go_wp2
      go_ret
      exact ⟨ret_int HE.out, rfl⟩
theorem smax_any (a : Option Addr) (cap : Nat) (xs : List Int) (w : World) (hl : xs.length ≤ 1000) (hp : 1 ≤ xs.length) (hx : IntsAt w a xs) :
    Calls Try.prog 75 #[.slice a xs.length cap] w fun e w' => e = .returned (.int .i64 (maxL xs)) ∧ w = w' := by
  have HX := Lib.hid hx
  obtain ⟨b0, off0, rfl, c0⟩ := hx 0 hp
  simp only [Nat.add_zero] at c0
  clear hx
  have H1 : Hid (maxL (xs.take 1) = xs.getD 0 0) := by
    show maxL (xs.take 1) = xs.getD 0 0
    cases xs with
    | nil => simp at hp
    | cons x l => rfl
  generalize hmm : xs.length = m at *
  have HM := Lib.hid hmm
  clear hmm
  generalize xs.getD 0 0 = x0 at *
  go_enter Try.func75, Try.ntmps75
  go_wp2
  go_loop [3, 4] (fun t i => ∃ k : Nat, 1 ≤ k ∧ k ≤ m ∧ i = .int .i64 k ∧ t = .int .i64 (maxL (xs.take k))) (fun _ i => m - (intOf i).toNat)
  case atStart => exact ⟨1, Nat.le_refl _, hp, rfl, by rw [H1.out]⟩
  case round =>
    obtain ⟨k, hk1, hk, rfl, rfl⟩ := hrel
    by_cases hlt : k < m
    · have hkx : k < xs.length := by have := HM.out; omega
      obtain ⟨b, off, e, c1⟩ := HX.out k hkx
      simp only [Option.some.injEq, Addr.mk.injEq] at e
      obtain ⟨rfl, rfl, _⟩ := e
      have HE := Lib.hid (maxL_succ hk1 hkx)
      clear hkx
      generalize xs.getD k 0 = x at *
      generalize maxL (xs.take k) = s at *
      go_wp2
      go_round
      case rel => exact ⟨k + 1, by omega, by omega, by go_num, by rw [HE.out]; congr 1; split <;> omega⟩
      case measure => simp [intOf]; omega
    · have HE : Hid (maxL (xs.take k) = maxL xs) := by
        show maxL (xs.take k) = maxL xs
        have := HM.out
        rw [List.take_of_length_le (by omega)]
      go_wp2
      go_ret
      exact ⟨ret_int HE.out, rfl⟩
theorem minimum_o (b off : Nat) (cap : Nat) (x y : Int) (w : World) (h1 : w.cell? ⟨b, off, none⟩ = some (.int .i64 x)) (h2 : w.cell? ⟨b, off + 1, none⟩ = some (.int .i64 y)) :
    Calls Try.prog 73 #[.slice (some ⟨b, off, none⟩) 2 cap] w fun e w' => e = .returned (.int .i64 (min x y)) ∧ w = w' := by
  have H : Hid (IntsAt w (some ⟨b, off, none⟩) [x, y]) := fun k hk => by
    refine ⟨b, off, rfl, ?_⟩
    match k, hk with
    | 0, _ => simpa using h1
    | 1, _ => simpa using h2
  clear h1 h2
  go_enter Try.func73, Try.ntmps73
  go_wp2_with fail
  refine (smin_any (some ⟨b, off, none⟩) cap [x, y] w (by simp) (by simp) H.out).mono ?_
  rintro e w' ⟨rfl, rfl⟩
  go_wp2
  go_ret
  exact ⟨rfl, rfl⟩

end Go.Proofs.Ytfiacjdkdjkiiaa
end
section
namespace Go.Tl
open Go Go.RowKit
set_option linter.unusedVariables false
theorem acall_own {P : Program} {g : Nat} {v : Value} {E sz n : Nat} {rows : List (List AV)} {f : Nat → List Tr} {R : AV → Prop} (C : PCall P g [.t (.sl true sz n f)] R) (hn : rows.length = n) (hf : ∀ k, k < n → rows.getD k [] = (f k).map AV.ofTr) :
    ACall P g [.v v] [.rw v E sz rows] (fun r h' => R r ∧ h' = []) := fun w S vs h1 h2 h3 => by
  have he := h2.ent _ List.mem_cons_self
  have ht := row_tree he hn hf
  have hlt' : ∀ b, (S b ∨ v.ownBlock = some b) → b < w.heap.size := fun b hb => by
    rcases hb with hb | hb
    · exact h1 b hb
    · obtain ⟨xs, ho, _⟩ := he
      exact (ho.lt b hb).2
  have hvs : vs = [v] := by
    have := VRels.lits_inv (xs := [v]) h3
    exact this
  subst hvs
  refine (C w _ [v] hlt' HRel.nil (.cons (.t ht) .nil)).mono fun e w' ⟨v', S'', r, h', e1, hq, hvr, E', hlt, hr, hl⟩ => ⟨v', S'', r, h', e1, hq, hvr, ⟨E'.os, E'.tape, E'.output, E'.size, fun b hb hn => E'.keep b hb (fun ⟨e, he, _⟩ => by cases he), fun b hb => E'.stab b (.inl hb), fun b hb => ?_⟩, hlt, hr, fun e he => ?_⟩
  · rcases E'.new b hb with (h | h) | h | ⟨e, he, _⟩
    · exact .inl h
    · exact .inr (.inr ⟨_, List.mem_cons_self, h⟩)
    · exact .inr (.inl h)
    · cases he
  · rw [hq.2] at he; cases he
theorem acall_borrow {P : Program} {g : Nat} {v : Value} {E sz n : Nat} {rows : List (List AV)} {f : Nat → List Tr} {u : Value} (C : PCall P g [.t (.sl true sz n f)] (fun r => r = .v u)) (hn : rows.length = n) (hf : ∀ k, k < n → rows.getD k [] = (f k).map AV.ofTr) :
    ACall P g [.v v] [.rw v E sz rows] (fun r h' => r = .v u ∧ h' = [.rw v E sz rows]) := fun w S vs h1 h2 h3 => by
  have he := h2.ent _ List.mem_cons_self
  have ht := row_tree he hn hf
  have hown : ∀ b, v.ownBlock = some b → b < w.heap.size := fun b hb => by
    obtain ⟨xs, ho, _⟩ := he
    exact (ho.lt b hb).2
  have hlt' : ∀ b, (S b ∨ v.ownBlock = some b) → b < w.heap.size := fun b hb => by
    rcases hb with hb | hb
    · exact h1 b hb
    · exact hown b hb
  have hvs : vs = [v] := VRels.lits_inv (xs := [v]) h3
  subst hvs
  refine (C w _ [v] hlt' HRel.nil (.cons (.t ht) .nil)).mono fun e w' ⟨v', S'', r, h', e1, hq, hvr, E', hlt, hr, hl⟩ => ?_
  obtain ⟨rfl, rfl⟩ := hq
  have hk : ∀ b, b < w.heap.size → w'.heap[b]? = w.heap[b]? := fun b hb => E'.keep b hb (fun ⟨e, he, _⟩ => by cases he)
  rw [hvr.lit_inv] at e1
  exact ⟨_, S, _, _, e1, ⟨rfl, rfl⟩, .v _, ⟨E'.os, E'.tape, E'.output, E'.size, fun b hb _ => hk b hb, fun _ h => h, fun _ h => .inl h⟩, fun b hb => Nat.lt_of_lt_of_le (h1 b hb) E'.size,
    h2.same h1 (fun _ h => h) (fun _ h => .inl h) ⟨E'.os, E'.tape, E'.output, E'.size, fun b hb _ => hk b hb⟩, fun e he g hg => .inl ⟨e, he, hg⟩⟩
end Go.Tl
namespace Go.Proofs.Ytfiacjdkdjkiiaa
open Go Go.RowKit Go.Tl
set_option linter.unusedVariables false
theorem min_p (x y : Int) : PCall Try.prog 73 [.t (intsT true [x, y])] (fun r => r = intA (min x y)) := pcall_below fun w S vs hvs => by
  obtain ⟨v, us, rfl, k1, hvs⟩ := rels1 hvs
  obtain rfl := rels0 hvs
  obtain ⟨a, c, rfl, _, hx⟩ := ints_at (t_inv k1)
  obtain ⟨b0, o0, e0, c0⟩ := hx 0 (by simp)
  obtain ⟨b1, o1, e1, c1⟩ := hx 1 (by simp)
  subst e0
  cases e1
  exact (minimum_o b0 o0 c x y w (by simpa using c0) (by simpa using c1)).mono fun e w' ⟨e1, hb⟩ => ⟨_, _, e1, rfl, by subst hb; exact Below.refl _ _, .v _⟩
theorem min_o (g : Nat) (x y : Int) : ACall Try.prog 73 [.v (.slice (some ⟨g, 0, none⟩) 2 2)] [.rw (.slice (some ⟨g, 0, none⟩) 2 2) 3 1 [[intA x], [intA y]]] (fun r h' => r = intA (min x y) ∧ h' = []) :=
  acall_own (n := 2) (f := fun k => [.sc (.int .i64 ([x, y].getD k 0))]) (min_p x y) rfl (fun k hk => by
    match k, hk with
    | 0, _ => rfl
    | 1, _ => rfl)
theorem smax_p (cp : Bool) (xs : List Int) (hl : xs.length ≤ 1000) (hp : 1 ≤ xs.length) : PCall Try.prog 75 [.t (intsT cp xs)] (fun r => r = intA (maxL xs)) := pcall_below fun w S vs hvs => by
  obtain ⟨v, us, rfl, k1, hvs⟩ := rels1 hvs
  obtain rfl := rels0 hvs
  obtain ⟨a, c, rfl, _, hx⟩ := ints_at (t_inv k1)
  exact (smax_any a c xs w hl hp hx).mono fun e w' ⟨e1, hb⟩ => ⟨_, _, e1, rfl, by subst hb; exact Below.refl _ _, .v _⟩
theorem smax_o (v : Value) (xs : List Int) (hl : xs.length ≤ 1000) (hp : 1 ≤ xs.length) : ACall Try.prog 75 [.v v] [.rw v 3 1 (xs.map intRow)] (fun r h' => r = intA (maxL xs) ∧ h' = [.rw v 3 1 (xs.map intRow)]) :=
  acall_borrow (smax_p true xs hl hp) (by simp) (intRows_tree xs)
theorem all_p (cp : Bool) (lo hi : Int) (xs : List Int) (hl : xs.length ≤ 1000) : PCall Try.prog 74 [.t (intsT cp xs), .fn (.func 72) [.ag [intA lo, intA hi]] []] (fun r => r = boolA (xs.all (inB · lo hi))) := pcall_below fun w S vs hvs => by
  obtain ⟨v, us, rfl, k1, hvs⟩ := rels1 hvs
  obtain ⟨v2, us, rfl, k2, hvs⟩ := rels1 hvs
  obtain rfl := rels0 hvs
  obtain ⟨a, c, rfl, _, hx⟩ := ints_at (t_inv k1)
  obtain ⟨us, cs, rfl, r1, r2⟩ := callee_fn w S v2 k2
  obtain rfl := rels0 r2
  obtain ⟨v3, us, rfl, k3, r1⟩ := rels1 r1
  obtain rfl := rels0 r1
  obtain ⟨ts, rfl, q3⟩ := ag_inv k3
  obtain ⟨v4, us, rfl, k4, q3⟩ := rels1 q3
  obtain ⟨v5, us, rfl, k5, q3⟩ := rels1 q3
  obtain rfl := rels0 q3
  rw [k4.lit_inv, k5.lit_inv]
  exact (allI_any lo hi a c xs w hl hx).mono fun e w' ⟨e1, hb⟩ => ⟨_, _, e1, rfl, hb, .v _⟩
theorem within_p (n lo hi : Int) : PCall Try.prog 69 [intA n, intA lo, intA hi] (fun r => r = boolA (inB n lo hi)) := pcall_below fun w S vs hvs => by
  obtain ⟨v, us, rfl, k1, hvs⟩ := rels1 hvs
  obtain ⟨v2, us, rfl, k2, hvs⟩ := rels1 hvs
  obtain ⟨v3, us, rfl, k3, hvs⟩ := rels1 hvs
  obtain rfl := rels0 hvs
  rw [k1.lit_inv, k2.lit_inv, k3.lit_inv]
  exact (within_any n lo hi w).mono fun e w' ⟨e1, hb⟩ => ⟨_, _, e1, rfl, by subst hb; exact Below.refl _ _, .v _⟩
theorem within_v {n lo hi : Int} {b : Bool} (h : inB n lo hi = b) : PCall Try.prog 69 [intA n, intA lo, intA hi] (fun r => r = boolA b) := by subst h; exact within_p n lo hi
theorem all_v {cp : Bool} {lo hi : Int} {xs : List Int} {b : Bool} (hl : xs.length ≤ 1000) (h : xs.all (inB · lo hi) = b) : PCall Try.prog 74 [.t (intsT cp xs), .fn (.func 72) [.ag [intA lo, intA hi]] []] (fun r => r = boolA b) := by subst h; exact all_p cp lo hi xs hl
end Go.Proofs.Ytfiacjdkdjkiiaa
end
section
namespace Go.Proofs.Ytfiacjdkdjkiiaa
open Go.RowKit
set_option linter.unusedVariables false
set_option linter.unusedSectionVars false
def cnt (p : Nat → Bool) : Nat → Nat
  | 0 => 0
  | m + 1 => cnt p m + if p m then 1 else 0
theorem cnt_le (p : Nat → Bool) (m : Nat) : cnt p m ≤ m := by
  induction m with
  | zero => exact Nat.le_refl _
  | succ m ih => simp only [cnt]; split <;> omega
theorem cnt_mono {p q : Nat → Bool} {m : Nat} (h : ∀ k, k < m → p k = true → q k = true) : cnt p m ≤ cnt q m := by
  induction m with
  | zero => exact Nat.le_refl _
  | succ m ih =>
    have h1 := ih (fun k hk => h k (by omega))
    have h2 := h m (by omega)
    simp only [cnt]
    cases hp : p m
    · simp; omega
    · rw [h2 hp]; simp; omega
theorem cnt_congr {p q : Nat → Bool} {m : Nat} (h : ∀ k, k < m → p k = q k) : cnt p m = cnt q m :=
  Nat.le_antisymm (cnt_mono fun k hk e => by rw [← h k hk]; exact e) (cnt_mono fun k hk e => by rw [h k hk]; exact e)
theorem cnt_lt {p q : Nat → Bool} {m y : Nat} (h : ∀ k, k < m → p k = true → q k = true) (hy : y < m) (h1 : q y = true) (h2 : p y = false) : cnt p m < cnt q m := by
  induction m with
  | zero => omega
  | succ m ih =>
    simp only [cnt]
    by_cases e : y = m
    · subst e
      have := cnt_mono (p := p) (q := q) (m := y) (fun k hk => h k (by omega))
      rw [h1, h2]; simp; omega
    · have := ih (fun k hk => h k (by omega)) (by omega)
      have h3 := h m (by omega)
      cases hp : p m
      · simp; omega
      · rw [h3 hp]; simp; omega
theorem cnt_ex {p : Nat → Bool} {m : Nat} (h : cnt p m < m) : ∃ k, k < m ∧ p k = false := by
  induction m with
  | zero => omega
  | succ m ih =>
    cases hp : p m
    · exact ⟨m, by omega, hp⟩
    · simp only [cnt, hp, if_true] at h
      obtain ⟨k, hk, e⟩ := ih (by omega)
      exact ⟨k, by omega, e⟩
theorem cnt_zero {p : Nat → Bool} {m : Nat} (h : ∀ k, k < m → p k = false) : cnt p m = 0 := by
  induction m with
  | zero => rfl
  | succ m ih => simp only [cnt, h m (by omega), ih (fun k hk => h k (by omega))]; rfl
theorem cnt_one {p q : Nat → Bool} {m i : Nat} (hi : i < m) (h : ∀ k, k < m → k ≠ i → q k = p k) (hp : p i = false) (hq : q i = true) : cnt q m = cnt p m + 1 := by
  induction m with
  | zero => omega
  | succ m ih =>
    simp only [cnt]
    by_cases e : i = m
    · subst e
      rw [cnt_congr (p := q) (q := p) (fun k hk => h k (by omega) (by omega)), hp, hq]; simp
    · rw [ih (by omega) (fun k hk => h k (by omega)), h m (by omega) (by omega)]; omega
def beats (r : Nat → Int) (k i : Nat) : Bool := decide (r i < r k) || decide (r k = r i ∧ k < i)
theorem beats_iff {r : Nat → Int} {k i : Nat} : beats r k i = true ↔ r i < r k ∨ (r k = r i ∧ k < i) := by simp [beats]
def bef (r : Nat → Int) (m i : Nat) : Nat := cnt (fun k => beats r k i) m
theorem bef_lt {r : Nat → Int} {m i k : Nat} (hi : i < m) (h : beats r i k = true) : bef r m i < bef r m k := by
  refine cnt_lt (fun x hx e => ?_) hi h ?_
  · rw [beats_iff] at *; omega
  · cases e : beats r i i
    · rfl
    · rw [beats_iff] at e; omega
theorem bef_inj {r : Nat → Int} {m i k : Nat} (hi : i < m) (hk : k < m) (h : bef r m i = bef r m k) : i = k := by
  rcases Nat.lt_trichotomy i k with h1 | h1 | h1
  · rcases Int.lt_or_le (r i) (r k) with h2 | h2
    · have := bef_lt (m := m) hk (beats_iff.2 (.inl h2)); omega
    · have := bef_lt (r := r) (m := m) hi (k := k) (beats_iff.2 (by omega)); omega
  · exact h1
  · rcases Int.lt_or_le (r k) (r i) with h2 | h2
    · have := bef_lt (m := m) hi (beats_iff.2 (.inl h2)); omega
    · have := bef_lt (r := r) (m := m) hk (k := i) (beats_iff.2 (by omega)); omega
/-- the rests when c pence have been given -/
def rstN (r : Nat → Int) (m c i : Nat) : Int := if bef r m i < c then -1 else r i
def givN (r : Nat → Int) (m c i : Nat) : Int := if bef r m i < c then 1 else 0
def Given (r : Nat → Int) (m c : Nat) : Prop := cnt (fun k => decide (bef r m k < c)) m = c
theorem given_zero (r : Nat → Int) (m : Nat) : Given r m 0 := cnt_zero fun k hk => by simp
theorem step_bef {r : Nat → Int} {m c i : Nat} (hr : ∀ k, k < m → 0 ≤ r k) (hg : Given r m c) (hc : c < m) (hi : i < m) (h1 : ∀ k, k < m → rstN r m c k ≤ rstN r m c i) (h2 : ∀ k, k < i → rstN r m c k ≠ rstN r m c i) :
    bef r m i = c := by
  have h0 : 0 ≤ rstN r m c i := by
    obtain ⟨k, hk, e⟩ := cnt_ex (p := fun k => decide (bef r m k < c)) (by rw [hg]; exact hc)
    have e' : ¬ bef r m k < c := of_decide_eq_false e
    have h3 := h1 k hk
    rw [show rstN r m c k = r k from if_neg e'] at h3
    have := hr k hk
    omega
  have hb : ¬ bef r m i < c := fun e => by rw [show rstN r m c i = -1 from if_pos e] at h0; omega
  have hri : rstN r m c i = r i := if_neg hb
  rw [hri] at h1 h2
  refine Eq.trans ?_ hg
  refine cnt_congr fun k hk => ?_
  cases e : beats r k i
  · refine Eq.symm (decide_eq_false fun hlt => ?_)
    by_cases hki : k = i
    · subst hki; exact hb hlt
    have : beats r i k = true := by
      rw [beats_iff]
      have h3 : ¬ (r i < r k ∨ (r k = r i ∧ k < i)) := fun h => by rw [← beats_iff, e] at h; cases h
      omega
    have := bef_lt (m := m) hi this
    omega
  · refine Eq.symm (decide_eq_true ?_)
    refine Decidable.byContradiction fun hn => ?_
    have e1 : rstN r m c k = r k := if_neg hn
    have h3 := h1 k hk
    rw [e1] at h3
    rw [beats_iff] at e
    have h4 := h2 k (by omega)
    rw [e1] at h4
    omega
theorem step_given {r : Nat → Int} {m c i : Nat} (hg : Given r m c) (hi : i < m) (hb : bef r m i = c) : Given r m (c + 1) := by
  have := cnt_one (p := fun k => decide (bef r m k < c)) (q := fun k => decide (bef r m k < c + 1)) hi (fun k hk hki => ?_) (decide_eq_false (by omega)) (decide_eq_true (by omega))
  · rw [hg] at this; exact this
  · have : bef r m k ≠ c := fun e => hki (bef_inj (r := r) hk hi (by omega))
    exact decide_eq_decide.2 (by omega)
theorem rst_step {r : Nat → Int} {m c i k : Nat} (hi : i < m) (hk : k < m) (hb : bef r m i = c) : rstN r m (c + 1) k = if k = i then -1 else rstN r m c k := by
  unfold rstN
  by_cases e : k = i
  · subst e; rw [if_pos (by omega), if_pos rfl]
  · have : bef r m k ≠ c := fun e' => e (bef_inj (r := r) hk hi (by omega))
    rw [if_neg e]
    by_cases h : bef r m k < c
    · rw [if_pos (by omega), if_pos h]
    · rw [if_neg (by omega), if_neg h]
theorem giv_step {r : Nat → Int} {m c i k : Nat} (hi : i < m) (hk : k < m) (hb : bef r m i = c) : givN r m (c + 1) k = if k = i then givN r m c k + 1 else givN r m c k := by
  unfold givN
  by_cases e : k = i
  · subst e; rw [if_pos (by omega), if_pos rfl, if_neg (by omega)]; rfl
  · have : bef r m k ≠ c := fun e' => e (bef_inj (r := r) hk hi (by omega))
    rw [if_neg e]
    by_cases h : bef r m k < c
    · rw [if_pos (by omega), if_pos h]
    · rw [if_neg (by omega), if_neg h]
def sumF (f : Nat → Int) : Nat → Int
  | 0 => 0
  | m + 1 => sumF f m + f m
theorem sumF_congr {f g : Nat → Int} {m : Nat} (h : ∀ k, k < m → f k = g k) : sumF f m = sumF g m := by
  induction m with
  | zero => rfl
  | succ m ih => simp only [sumF, ih (fun k hk => h k (by omega)), h m (by omega)]
theorem sumF_le {f g : Nat → Int} {m : Nat} (h : ∀ k, k < m → f k ≤ g k) : sumF f m ≤ sumF g m := by
  induction m with
  | zero => exact Int.le_refl _
  | succ m ih => have := ih (fun k hk => h k (by omega)); have := h m (by omega); simp only [sumF]; omega
theorem sumF_add (f g : Nat → Int) (m : Nat) : sumF (fun k => f k + g k) m = sumF f m + sumF g m := by
  induction m with
  | zero => rfl
  | succ m ih => simp only [sumF, ih]; omega
theorem sumF_mul (f : Nat → Int) (c : Int) (m : Nat) : sumF (fun k => f k * c) m = sumF f m * c := by
  induction m with
  | zero => simp [sumF]
  | succ m ih => simp only [sumF, ih, Int.add_mul]
theorem sumF_cnt (p : Nat → Bool) (c : Int) (m : Nat) : sumF (fun k => if p k then c else 0) m = cnt p m * c := by
  induction m with
  | zero => simp [sumF, cnt]
  | succ m ih =>
    simp only [sumF, cnt, ih]
    cases p m <;> simp [Int.add_mul]
theorem sumF_nonneg {f : Nat → Int} {m : Nat} (h : ∀ k, k < m → 0 ≤ f k) : 0 ≤ sumF f m := by
  induction m with
  | zero => exact Int.le_refl _
  | succ m ih => have := ih (fun k hk => h k (by omega)); have := h m (by omega); simp only [sumF]; omega
theorem sumF_const (c : Int) (m : Nat) : sumF (fun _ => c) m = m * c := by
  induction m with
  | zero => simp [sumF]
  | succ m ih => simp only [sumF, ih, Int.natCast_add, Int.add_mul]; simp
/-- what is given whole, and what rests -/
def qN (l : List Int) (s t : Int) (i : Nat) : Int := l.getD i 0 * s / t
def rN (l : List Int) (s t : Int) (i : Nat) : Int := l.getD i 0 * s % t
def leftN (l : List Int) (s t : Int) (m : Nat) : Int := s - sumF (qN l s t) m
theorem left_mul {l : List Int} {s t : Int} {m : Nat} (ht : sumF (fun k => l.getD k 0) m = t) : leftN l s t m * t = sumF (rN l s t) m := by
  have h1 : sumF (fun k => qN l s t k * t + rN l s t k) m = sumF (fun k => l.getD k 0 * s) m := sumF_congr fun k _ => by
    unfold qN rN; have := Int.mul_ediv_add_emod (l.getD k 0 * s) t; rw [Int.mul_comm t] at this; exact this
  rw [sumF_add, sumF_mul, sumF_mul, ht, Int.mul_comm t s] at h1
  unfold leftN
  rw [Int.sub_mul]; omega
theorem rN_in {l : List Int} {s t : Int} (h : 0 < t) (i : Nat) : 0 ≤ rN l s t i ∧ rN l s t i ≤ t - 1 := by
  have h1 := Int.emod_nonneg (l.getD i 0 * s) (show t ≠ 0 by omega)
  have h2 := Int.emod_lt_of_pos (l.getD i 0 * s) h
  unfold rN; omega
theorem left_in {l : List Int} {s t : Int} {m : Nat} (ht : sumF (fun k => l.getD k 0) m = t) (h : 0 < t) : 0 ≤ leftN l s t m ∧ leftN l s t m < m := by
  have h1 := left_mul (s := s) ht
  have h2 : 0 ≤ sumF (rN l s t) m := sumF_nonneg fun k _ => (rN_in h k).1
  have h3 : sumF (rN l s t) m ≤ m * (t - 1) := by rw [← sumF_const]; exact sumF_le fun k _ => (rN_in h k).2
  have hm : 0 < m := by
    cases m with
    | zero => simp [sumF] at ht; omega
    | succ m => omega
  constructor
  · refine Decidable.byContradiction fun hn => ?_
    have : leftN l s t m * t ≤ (-1) * t := Int.mul_le_mul_of_nonneg_right (by omega) (by omega)
    omega
  · refine Decidable.byContradiction fun hn => ?_
    have h4 : (m : Int) * t ≤ leftN l s t m * t := Int.mul_le_mul_of_nonneg_right (by omega) (by omega)
    rw [Int.mul_sub] at h3
    omega
/-- who is given a penny has a rest -/
theorem given_pos {l : List Int} {s t : Int} {m i : Nat} (ht : sumF (fun k => l.getD k 0) m = t) (h : 0 < t) (hi : i < m) (hb : (bef (rN l s t) m i : Int) < leftN l s t m) : 0 < rN l s t i := by
  have h1 := left_mul (s := s) ht
  refine Decidable.byContradiction fun hn => ?_
  have h0 := (rN_in (l := l) (s := s) h i).1
  have h3 : sumF (rN l s t) m ≤ sumF (fun k => if beats (rN l s t) k i then t - 1 else 0) m := sumF_le fun k _ => by
    have h4 := rN_in (l := l) (s := s) h k
    cases e : beats (rN l s t) k i
    · have : ¬ (rN l s t i < rN l s t k ∨ (rN l s t k = rN l s t i ∧ k < i)) := fun h => by rw [← beats_iff, e] at h; cases h
      show _ ≤ (0 : Int); omega
    · show _ ≤ t - 1; omega
  rw [sumF_cnt] at h3
  change sumF (rN l s t) m ≤ (bef (rN l s t) m i : Int) * (t - 1) at h3
  have h5 : (bef (rN l s t) m i : Int) * (t - 1) ≤ leftN l s t m * (t - 1) := Int.mul_le_mul_of_nonneg_right (by omega) (by omega)
  have h7 : leftN l s t m * (t - 1) = leftN l s t m * t - leftN l s t m := by rw [Int.mul_sub, Int.mul_one]
  have h6 : 0 < leftN l s t m := by omega
  omega
/-- the part of one -/
def partN (l : List Int) (s t : Int) (m i : Nat) : Int := qN l s t i + givN (rN l s t) m (leftN l s t m).toNat i
section
variable {l : List Int} {s t : Int} {m : Nat} (ht : sumF (fun k => l.getD k 0) m = t) (h : 0 < t) (hs : 0 ≤ s ∧ s ≤ t) (hl : ∀ k, k < m → 0 ≤ l.getD k 0)
include ht h hs hl
theorem part_sum (hg : Given (rN l s t) m (leftN l s t m).toNat) : sumF (partN l s t m) m = s := by
  have h1 : sumF (partN l s t m) m = sumF (qN l s t) m + sumF (givN (rN l s t) m (leftN l s t m).toNat) m := sumF_add _ _ _
  have h2 : sumF (givN (rN l s t) m (leftN l s t m).toNat) m = (leftN l s t m).toNat := by
    rw [show sumF (givN (rN l s t) m (leftN l s t m).toNat) m = sumF (fun k => if decide (bef (rN l s t) m k < (leftN l s t m).toNat) then 1 else 0) m from sumF_congr fun k _ => by simp [givN], sumF_cnt]
    have := hg
    unfold Given at this
    rw [this]; simp
  have h3 := (left_in (s := s) ht h).1
  rw [h1, h2]
  have : leftN l s t m = s - sumF (qN l s t) m := rfl
  omega
theorem q_in {i : Nat} (hi : i < m) : 0 ≤ qN l s t i ∧ qN l s t i ≤ l.getD i 0 := by
  have h0 := hl i hi
  refine ⟨Int.ediv_nonneg (Int.mul_nonneg h0 hs.1) (by omega), ?_⟩
  have h1 : l.getD i 0 * s ≤ l.getD i 0 * t := Int.mul_le_mul_of_nonneg_left hs.2 h0
  have h2 : qN l s t i ≤ l.getD i 0 * t / t := Int.ediv_le_ediv h h1
  rwa [Int.mul_ediv_cancel _ (by omega)] at h2
theorem qr (i : Nat) : qN l s t i * t + rN l s t i = l.getD i 0 * s := by
  unfold qN rN; have := Int.mul_ediv_add_emod (l.getD i 0 * s) t; rw [Int.mul_comm t] at this; exact this
theorem part_in {i : Nat} (hi : i < m) : 0 ≤ partN l s t m i ∧ partN l s t m i ≤ l.getD i 0 ∧ partN l s t m i * t - l.getD i 0 * s < t ∧ l.getD i 0 * s - partN l s t m i * t < t := by
  have h1 := q_in ht h hs hl hi
  have h2 := qr ht h hs hl i
  have h3 := rN_in (l := l) (s := s) h i
  have h6 := left_in (s := s) ht h
  unfold partN givN
  by_cases hb : bef (rN l s t) m i < (leftN l s t m).toNat
  · rw [if_pos hb, Int.add_mul]
    have h4 := given_pos (s := s) ht h hi (by omega)
    refine ⟨by omega, ?_, by omega, by omega⟩
    refine Decidable.byContradiction fun hn => ?_
    have h5 : qN l s t i = l.getD i 0 := by omega
    rw [h5] at h2
    have := Int.mul_le_mul_of_nonneg_left hs.2 (hl i hi)
    omega
  · rw [if_neg hb]
    simp only [Int.add_zero]
    exact ⟨h1.1, h1.2, by omega, by omega⟩
theorem part_mono {i k : Nat} (hi : i < m) (hk : k < m) (hik : l.getD k 0 < l.getD i 0) : partN l s t m k ≤ partN l s t m i := by
  have h2 := qr ht h hs hl i
  have h3 := qr ht h hs hl k
  have h4 : l.getD k 0 * s ≤ l.getD i 0 * s := Int.mul_le_mul_of_nonneg_right (by omega) hs.1
  have h5 : qN l s t k ≤ qN l s t i := Int.ediv_le_ediv h h4
  have h6 := left_in (s := s) ht h
  unfold partN givN
  by_cases hb : bef (rN l s t) m k < (leftN l s t m).toNat
  · have hp := given_pos (s := s) ht h hk (by omega)
    by_cases hb' : bef (rN l s t) m i < (leftN l s t m).toNat
    · rw [if_pos hb, if_pos hb']; omega
    · rw [if_pos hb, if_neg hb']
      by_cases hq : qN l s t k = qN l s t i
      · rw [hq] at h3
        exfalso
        have h7 : rN l s t k ≤ rN l s t i := by omega
        have h8 : ¬ rN l s t k < rN l s t i := fun e => by
          have := bef_lt (m := m) hi (beats_iff.2 (.inl e)); omega
        have h9 : l.getD k 0 * s = l.getD i 0 * s := by omega
        have h10 : s = 0 := by
          rcases Int.lt_or_le 0 s with hs' | hs'
          · have := Int.mul_lt_mul_of_pos_right hik hs'; omega
          · omega
        subst h10
        simp [rN] at hp
      · omega
  · rw [if_neg hb]; split <;> omega
end
end Go.Proofs.Ytfiacjdkdjkiiaa
end
