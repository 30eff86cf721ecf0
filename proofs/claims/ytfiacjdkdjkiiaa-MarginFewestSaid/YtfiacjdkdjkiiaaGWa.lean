/- Joined texts: W1, W3, W4, W5, W6, W7. -/
import Derived.Test.YtfiacjdkdjkiiaaProg
import Derived.Test.YtfiacjdkdjkiiaaGBs
section
namespace Go.Proofs.Ytfiacjdkdjkiiaa
open Go.RowKit
set_option linter.unusedVariables false

theorem ret_int {k : IntKind} {a b : Int} (h : a = b) : Ending.returned (.int k a) = .returned (.int k b) := by rw [h]
theorem ret_bool {a b : Bool} (h : a = b) : Ending.returned (.bool a) = .returned (.bool b) := by rw [h]
theorem in_true (n lo hi : Int) (w : World) (h : inB n lo hi = true) :
    Calls Try.prog 32 #[.int .i64 n, .int .i64 lo, .int .i64 hi] w fun e w' => e = .returned (.bool true) ∧ w = w' := by
  have h' : lo ≤ n ∧ n ≤ hi := by simpa [inB] using h
  obtain ⟨h1, h2⟩ := h'
  clear h
  go_enter Try.func32, Try.ntmps32
  go_wp2
  go_ret
  exact ⟨rfl, rfl⟩
theorem in_false (n lo hi : Int) (w : World) (h : inB n lo hi = false) :
    Calls Try.prog 32 #[.int .i64 n, .int .i64 lo, .int .i64 hi] w fun e w' => e = .returned (.bool false) ∧ w = w' := by
  have h' : ¬ (lo ≤ n ∧ n ≤ hi) := by simpa [inB] using h
  clear h
  by_cases h1 : lo ≤ n
  · have h2 : ¬ n ≤ hi := fun x => h' ⟨h1, x⟩
    clear h'
    go_enter Try.func32, Try.ntmps32
    go_wp2
    go_ret
    exact ⟨rfl, rfl⟩
  · clear h'
    go_enter Try.func32, Try.ntmps32
    go_wp2
    go_ret
    exact ⟨rfl, rfl⟩
theorem in_any (n lo hi : Int) (w : World) :
    Calls Try.prog 32 #[.int .i64 n, .int .i64 lo, .int .i64 hi] w fun e w' => e = .returned (.bool (inB n lo hi)) ∧ w = w' := by
  cases h : inB n lo hi
  · exact in_false n lo hi w h
  · exact in_true n lo hi w h

theorem quiet_left {P : Program} {f : FuncId} {args : Array Value} {w : World} {n : Nat} {v : Value}
    (h : Calls P f args (w.drewN n) fun e w' => e = .returned v ∧ w.drewN n = w') : Calls P f args (w.drewN n) fun e w'' => e = .returned v ∧ ∃ m, w'' = w.drewN m :=
  h.mono fun _ _ ⟨he, hm⟩ => ⟨he, n, hm.symm⟩
theorem quiet_add_left {P : Program} {f : FuncId} {args : Array Value} {w : World} {a n : Nat} {v : Value}
    (h : Calls P f args (w.drewN (a + n)) fun e w' => e = .returned v ∧ w.drewN (a + n) = w') :
    Calls P f args (w.drewN (a + n)) fun e w'' => e = .returned v ∧ ∃ m, w'' = w.drewN (a + m) :=
  h.mono fun _ _ ⟨he, hm⟩ => ⟨he, n, hm.symm⟩

theorem take_succ_getD {α : Type} {l : List α} {k : Nat} (d : α) (h : k < l.length) : l.take (k + 1) = l.take k ++ [l.getD k d] := by
  rw [List.take_succ_eq_append_getElem h, List.getD_eq_getElem?_getD, List.getElem?_eq_getElem h]; rfl

set_option maxHeartbeats 400000 in
theorem same_any (a a' : Option Addr) (xs ys : List Int) (cap cap' : Nat) (w : World) (hl : xs.length ≤ 1000) (hl' : ys.length ≤ 1000)
    (hx : IntsAt w a xs) (hy : IntsAt w a' ys) :
    Calls Try.prog 26 #[.slice a xs.length cap, .slice a' ys.length cap'] w fun e w' => e = .returned (.bool (decide (xs = ys))) ∧ ∃ n, w' = w.drewN n := by
  by_cases hlen : xs.length = ys.length
  · have HX := Lib.hid hx; have HY := Lib.hid hy; have HL := Lib.hid hlen
    clear hx hy
    generalize hn : ys.length = n at *
    generalize hm : xs.length = m at *
    have hle : n ≤ m := by omega
    have hle' : m ≤ n := by omega
    have HM := Lib.hid hm; have HN := Lib.hid hn
    have e1 : ((m : Int) != (n : Int)) = false := by simp; omega
    clear hlen hn hm
    go_enter Try.func26, Try.ntmps26
    go_wp2
    go_loopw [5] (fun i wr => ∃ k q : Nat, k ≤ m ∧ i = .int .i64 k ∧ xs.take k = ys.take k ∧ wr = w.drewN q) (fun i _ => m - (intOf i).toNat)
    case atStart => exact ⟨0, 0, Nat.zero_le _, rfl, rfl, rfl⟩
    case round =>
      obtain ⟨k, q, hk, rfl, ht, rfl⟩ := hrel
      have HT := Lib.hid ht
      clear ht
      by_cases hlt : k < m
      · have hkx : k < xs.length := by have := HM.out; omega
        have hky : k < ys.length := by have := HN.out; omega
        obtain ⟨b, off, rfl, c1⟩ := HX.out k hkx
        obtain ⟨b', off', rfl, c2⟩ := HY.out k hky
        have hlt2 : k < n := by omega
        by_cases hne : xs.getD k 0 = ys.getD k 0
        · have HE : Hid (xs.take (k+1) = ys.take (k+1)) := by
            show xs.take (k+1) = ys.take (k+1)
            rw [take_succ_getD 0 hkx, take_succ_getD 0 hky, HT.out, hne]
          have e2 : (xs.getD k 0 != ys.getD k 0) = false := by simp only [hne, bne_self_eq_false]
          clear hne hkx hky
          generalize xs.getD k 0 = x at *
          generalize ys.getD k 0 = y at *
          go_wp2
          go_quiet (fail)
          go_wp2
          go_roundw
          case rel => exact ⟨k + 1, _, by omega, by go_num, HE.out, rfl⟩
          case measure => simp [intOf]; omega
        · have HF : Hid (decide (xs = ys) = false) := by
            show decide (xs = ys) = false
            simp only [decide_eq_false_iff_not]
            intro e
            exact hne (by rw [e])
          have e2 : (xs.getD k 0 != ys.getD k 0) = true := by simpa [bne_iff_ne] using hne
          clear hne hkx hky
          generalize xs.getD k 0 = x at *
          generalize ys.getD k 0 = y at *
          go_wp2
          go_quiet (fail)
          go_wp2
          go_ret
          exact ⟨ret_bool HF.out.symm, _, World.drewN_drewN _ _ _⟩
      · have HE : Hid (decide (xs = ys) = true) := by
          show decide (xs = ys) = true
          simp only [decide_eq_true_eq]
          have := HT.out
          have hm := HM.out
          have hn := HN.out
          rwa [List.take_of_length_le (by omega), List.take_of_length_le (by omega)] at this
        go_wp2
        go_ret
        exact ⟨ret_bool HE.out.symm, _, rfl⟩
  · have e1 : ((xs.length : Int) != (ys.length : Int)) = true := by simp; omega
    have HF : Hid (decide (xs = ys) = false) := by
      show decide (xs = ys) = false
      simp only [decide_eq_false_iff_not]
      intro e
      exact hlen (by rw [e])
    clear hx hy hlen
    generalize ys.length = n at *
    generalize xs.length = m at *
    go_enter Try.func26, Try.ntmps26
    go_wp2
    go_ret
    exact ⟨ret_bool HF.out.symm, 0, rfl⟩

def sumI : List Int → Int
  | [] => 0
  | x :: l => x + sumI l
theorem sumI_append (l m : List Int) : sumI (l ++ m) = sumI l + sumI m := by
  induction l with
  | nil => simp [sumI]
  | cons x l ih => simp [sumI, ih]; omega
theorem sumI_bd (l : List Int) (B : Int) (h : ∀ x ∈ l, -B ≤ x ∧ x ≤ B) : -(B * l.length) ≤ sumI l ∧ sumI l ≤ B * l.length := by
  induction l with
  | nil => simp [sumI]
  | cons x l ih =>
    have h1 := h x (by simp)
    have h2 := ih (fun y hy => h y (by simp [hy]))
    simp only [sumI, List.length_cons, Int.natCast_add, Int.cast_ofNat_Int]
    rw [Int.mul_add]; omega
theorem getD_mem {α : Type} {l : List α} {k : Nat} {d : α} (h : k < l.length) : l.getD k d ∈ l := by
  rw [List.getD_eq_getElem?_getD, List.getElem?_eq_getElem h]
  exact List.getElem_mem h

set_option maxHeartbeats 400000 in
theorem sum_any (a : Option Addr) (xs : List Int) (cap : Nat) (w : World) (hl : xs.length ≤ 1000) (hb : ∀ x ∈ xs, -1000000000000 ≤ x ∧ x ≤ 1000000000000) (hx : IntsAt w a xs) :
    Calls Try.prog 44 #[.slice a xs.length cap] w fun e w' => e = .returned (.int .i64 (sumI xs)) ∧ w = w' := by
  have HX := Lib.hid hx; have HB := Lib.hid hb
  clear hx hb
  generalize hm : xs.length = m at *
  have HM := Lib.hid hm
  clear hm
  go_enter Try.func44, Try.ntmps44
  go_wp2
  go_loop [3, 4] (fun t i => ∃ k : Nat, k ≤ m ∧ i = .int .i64 k ∧ t = .int .i64 (sumI (xs.take k))) (fun _ i => m - (intOf i).toNat)
  case atStart => exact ⟨0, Nat.zero_le _, rfl, rfl⟩
  case round =>
    obtain ⟨k, hk, rfl, rfl⟩ := hrel
    have hs := sumI_bd (xs.take k) 1000000000000 (fun x hx => HB.out x (List.mem_of_mem_take hx))
    have hlk : (xs.take k).length ≤ k := by simp; omega
    have hbd : -1000000000000000 ≤ sumI (xs.take k) ∧ sumI (xs.take k) ≤ 1000000000000000 := by omega
    clear hs hlk
    by_cases hlt : k < m
    · have hkx : k < xs.length := by have := HM.out; omega
      obtain ⟨b, off, rfl, c1⟩ := HX.out k hkx
      have hx1 := HB.out _ (getD_mem (d := 0) hkx)
      have HE : Hid (sumI (xs.take (k+1)) = sumI (xs.take k) + xs.getD k 0) := by
        show sumI (xs.take (k+1)) = sumI (xs.take k) + xs.getD k 0
        rw [take_succ_getD 0 hkx, sumI_append]; simp [sumI]
      clear hkx
      generalize xs.getD k 0 = x at *
      generalize sumI (xs.take k) = s at *
      go_wp2
      go_round
      case rel => exact ⟨k + 1, by omega, by go_num, by rw [HE.out]⟩
      case measure => simp [intOf]; omega
    · have HE : Hid (sumI (xs.take k) = sumI xs) := by
        show sumI (xs.take k) = sumI xs
        have := HM.out
        rw [List.take_of_length_le (by omega)]
      go_wp2
      go_ret
      exact ⟨ret_int HE.out, rfl⟩
end Go.Proofs.Ytfiacjdkdjkiiaa
end
section
namespace Go.Proofs.Ytfiacjdkdjkiiaa
open Go.RowKit
set_option linter.unusedVariables false

theorem within_true (n lo hi : Int) (w : World) (h : inB n lo hi = true) :
    Calls Try.prog 69 #[.int .i64 n, .int .i64 lo, .int .i64 hi] w fun e w' => e = .returned (.bool true) ∧ w = w' := by
  have h' : lo ≤ n ∧ n ≤ hi := by simpa [inB] using h
  obtain ⟨h1, h2⟩ := h'
  clear h
  go_enter Try.func69, Try.ntmps69
  go_wp2
  go_ret
  exact ⟨rfl, rfl⟩
theorem within_false (n lo hi : Int) (w : World) (h : inB n lo hi = false) :
    Calls Try.prog 69 #[.int .i64 n, .int .i64 lo, .int .i64 hi] w fun e w' => e = .returned (.bool false) ∧ w = w' := by
  have h' : ¬ (lo ≤ n ∧ n ≤ hi) := by simpa [inB] using h
  clear h
  by_cases h1 : lo ≤ n
  · have h2 : ¬ n ≤ hi := fun x => h' ⟨h1, x⟩
    clear h'
    go_enter Try.func69, Try.ntmps69
    go_wp2
    go_ret
    exact ⟨rfl, rfl⟩
  · clear h'
    go_enter Try.func69, Try.ntmps69
    go_wp2
    go_ret
    exact ⟨rfl, rfl⟩
theorem within_any (n lo hi : Int) (w : World) :
    Calls Try.prog 69 #[.int .i64 n, .int .i64 lo, .int .i64 hi] w fun e w' => e = .returned (.bool (inB n lo hi)) ∧ w = w' := by
  cases h : inB n lo hi
  · exact within_false n lo hi w h
  · exact within_true n lo hi w h

theorem has_any (lo hi n : Int) (w : World) :
    Calls Try.prog 72 #[.agg #[.int .i64 lo, .int .i64 hi], .int .i64 n] w fun e w' => e = .returned (.bool (inB n lo hi)) ∧ Below w.heap.size w w' := by
  go_enter Try.func72, Try.ntmps72
  go_wp2_with (go_at_call 69; refine (within_any _ _ _ _).mono ?_; rintro e w' ⟨rfl, rfl⟩)
  go_ret
  exact ⟨rfl, (Below.refl _ _).alloc (Nat.le_refl _) _⟩

theorem price_any (r : Rng) (w : World) :
    Calls Try.prog 86 #[.agg #[.int .i64 r.lo, .int .i64 r.hi]] w fun e w' => e = .returned (.bool (rngB r 1000)) ∧ Below w.heap.size w w' := by
  by_cases h1 : 0 ≤ r.lo
  · by_cases h2 : r.lo ≤ r.hi
    · have g : inB r.lo 0 r.hi = true := by simp [inB, h1, h2]
      by_cases h3 : r.hi ≤ 1000
      · have HF : Hid (rngB r 1000 = true) := rngB_ok g (by omega)
        clear g
        go_enter Try.func86, Try.ntmps86
        go_wp2
        go_ret
        exact ⟨ret_bool HF.out.symm, (Below.refl _ _).alloc (Nat.le_refl _) _⟩
      · have HF : Hid (rngB r 1000 = false) := rngB_hi (by omega)
        clear g
        go_enter Try.func86, Try.ntmps86
        go_wp2
        go_ret
        exact ⟨ret_bool HF.out.symm, (Below.refl _ _).alloc (Nat.le_refl _) _⟩
    · have HF : Hid (rngB r 1000 = false) := rngB_in (by simp [inB]; omega)
      go_enter Try.func86, Try.ntmps86
      go_wp2
      go_ret
      exact ⟨ret_bool HF.out.symm, (Below.refl _ _).alloc (Nat.le_refl _) _⟩
  · have HF : Hid (rngB r 1000 = false) := rngB_in (by simp [inB]; omega)
    go_enter Try.func86, Try.ntmps86
    go_wp2
    go_ret
    exact ⟨ret_bool HF.out.symm, (Below.refl _ _).alloc (Nat.le_refl _) _⟩

theorem rng_1000 {r : Rng} (h : rngB r 100 = true) : rngB r 1000 = true := by
  simp [rngB] at *; exact ⟨h.1, by omega⟩
theorem rng_100 {r : Rng} (h : rngB r 1000 = true) (h' : r.hi ≤ 100) : rngB r 100 = true := by
  simp [rngB] at *; exact ⟨h.1, h'⟩

theorem bcell {W w1 : World} (hb : Below W.heap.size W w1) : (∀ b o, b < W.heap.size → w1.cell? ⟨b, o, none⟩ = W.cell? ⟨b, o, none⟩) ∧ (∀ b o, b < W.heap.size → w1.frozen? ⟨b, o, none⟩ = W.frozen? ⟨b, o, none⟩) :=
  ⟨fun b o h => hb.cell (p := ⟨b, o, none⟩) h, fun b o h => hb.frozen (p := ⟨b, o, none⟩) h⟩

theorem rate_any (r : Rng) (w : World) :
    Calls Try.prog 87 #[.agg #[.int .i64 r.lo, .int .i64 r.hi]] w fun e w' => e = .returned (.bool (rngB r 100)) ∧ Below w.heap.size w w' := by
  cases h0 : rngB r 1000
  · have HF : Hid (rngB r 100 = false) := by
      show rngB r 100 = false
      cases e : rngB r 100
      · rfl
      · rw [rng_1000 e] at h0; cases h0
    have H0 := Lib.hid h0
    clear h0
    go_enter Try.func87, Try.ntmps87
    go_wp2_with fail
    refine (price_any _ _).mono ?_
    rintro e w' ⟨rfl, hb⟩
    rw [H0.out]
    have HB := Lib.hid hb
    clear hb
    go_wp2
    go_ret
    exact ⟨ret_bool HF.out.symm, ((Below.refl _ _).alloc (Nat.le_refl _) _).trans (HB.out.mono (by simp))⟩
  · have H0 := Lib.hid h0
    clear h0
    by_cases h3 : r.hi ≤ 100
    · have HF : Hid (rngB r 100 = true) := rng_100 H0.out h3
      go_enter Try.func87, Try.ntmps87
      go_wp2_with fail
      refine (price_any _ _).mono ?_
      rintro e w' ⟨rfl, hb⟩
      rw [H0.out]
      have HB := Lib.hid hb
      obtain ⟨hc, hf⟩ := bcell hb
      clear hb
      go_wp2
      go_ret
      exact ⟨ret_bool HF.out.symm, ((Below.refl _ _).alloc (Nat.le_refl _) _).trans (HB.out.mono (by simp))⟩
    · have HF : Hid (rngB r 100 = false) := rngB_hi (by omega)
      go_enter Try.func87, Try.ntmps87
      go_wp2_with fail
      refine (price_any _ _).mono ?_
      rintro e w' ⟨rfl, hb⟩
      rw [H0.out]
      have HB := Lib.hid hb
      obtain ⟨hc, hf⟩ := bcell hb
      clear hb
      go_wp2
      go_ret
      exact ⟨ret_bool (by rw [HF.out]; simp; omega), ((Below.refl _ _).alloc (Nat.le_refl _) _).trans (HB.out.mono (by simp))⟩

theorem allR_cl (r : Rng) (fb : Nat) (w : World) (hf : w.cell? ⟨fb, 0, none⟩ = some (.func (.func 86) #[] #[])) :
    Calls Try.prog 105 #[.agg #[.int .i64 r.lo, .int .i64 r.hi], .pointer (some ⟨fb, 0, none⟩)] w fun e w' => e = .returned (.bool (!rngB r 1000)) ∧ Below w.heap.size w w' := by
  have hlt : fb < w.heap.size := World.block_lt_of_cell? _ _ hf
  go_enter Try.func105, Try.ntmps105
  go_wp2_with fail
  refine (price_any _ _).mono ?_
  rintro e w' ⟨rfl, hb⟩
  have HB := Lib.hid hb
  clear hb
  go_wp2
  go_ret
  exact ⟨rfl, ((Below.refl _ _).alloc (Nat.le_refl _) _).trans (HB.out.mono (by simp))⟩

/-- the first index at which p fails; -1 if there is none -/
def firstBad {α : Type} (p : α → Bool) : List α → Nat → Int
  | [], _ => -1
  | x :: l, i => if p x then firstBad p l (i + 1) else i
theorem firstBad_none {α : Type} {d : α} (p : α → Bool) (l : List α) (k i : Nat) (h : ∀ j, j < k → p (l.getD j d) = true) (hk : k = l.length) : firstBad p l i = -1 := by
  induction l generalizing k i with
  | nil => rfl
  | cons x l ih =>
    have h0 := h 0 (by rw [hk]; simp)
    simp at h0
    simp only [firstBad, h0, if_true]
    exact ih (k - 1) (i + 1) (fun j hj => by have := h (j + 1) (by omega); simpa using this) (by rw [hk]; simp)
theorem firstBad_at {α : Type} {d : α} (p : α → Bool) (l : List α) (k i : Nat) (h : ∀ j, j < k → p (l.getD j d) = true) (hk : k < l.length) (hf : p (l.getD k d) = false) : firstBad p l i = ((i + k : Nat) : Int) := by
  induction l generalizing k i with
  | nil => simp at hk
  | cons x l ih =>
    cases k with
    | zero => simp at hf; simp [firstBad, hf]
    | succ k =>
      have h0 := h 0 (by omega)
      simp at h0
      simp only [firstBad, h0, if_true]
      rw [ih k (i + 1) (fun j hj => by have := h (j + 1) (by omega); simpa using this) (by simpa using hk) (by simpa using hf)]
      congr 1; omega
theorem firstBad_iff {α : Type} (p : α → Bool) (l : List α) (i : Nat) : (0 ≤ firstBad p l i) ↔ l.all p = false := by
  induction l generalizing i with
  | nil => simp [firstBad]
  | cons x l ih =>
    by_cases hx : p x = true
    · simp only [firstBad, List.all_cons, hx, if_true, Bool.true_and]; exact ih (i + 1)
    · simp at hx; simp [firstBad, hx]
theorem firstBad_ge {α : Type} (p : α → Bool) (l : List α) (i : Nat) : (!decide (0 ≤ firstBad p l i)) = l.all p := by
  cases h : l.all p
  · simp [(firstBad_iff p l i).2 h]
  · have : ¬ 0 ≤ firstBad p l i := fun x => by rw [(firstBad_iff p l i).1 x] at h; cases h
    simp [this]

set_option maxHeartbeats 400000 in
theorem indexR_any (a : Option Addr) (cap fb : Nat) (rs : List Rng) (w : World) (hl : rs.length ≤ 1000) (hR : RngsAt w a rs) (hf : w.cell? ⟨fb, 0, none⟩ = some (.func (.func 86) #[] #[])) :
    Calls Try.prog 112 #[.slice a rs.length cap, .func (.func 105) #[] #[.pointer (some ⟨fb, 0, none⟩)]] w fun e w' => e = .returned (.int .i64 (firstBad (rngB · 1000) rs 0)) ∧ Below w.heap.size w w' := by
  have HR := Lib.hid hR; have HF := Lib.hid hf
  clear hR hf
  generalize hn : rs.length = n at *
  have HN := Lib.hid hn
  clear hn
  go_enter Try.func112, Try.ntmps112
  go_wp2
  go_loopw [8] (fun i wr => ∃ k : Nat, k ≤ n ∧ i = .int .i64 k ∧ (∀ j, j < k → rngB (rs.getD j default) 1000 = true) ∧ Below w.heap.size w wr) (fun i _ => n - (intOf i).toNat)
  case atStart => exact ⟨0, Nat.zero_le _, rfl, fun _ h => absurd h (Nat.not_lt_zero _), Below.refl _ _⟩
  case round =>
    obtain ⟨k, hk, rfl, hall, hbel⟩ := hrel
    have HA := Lib.hid hall; have HB := Lib.hid hbel
    clear hall hbel
    by_cases hlt : k < n
    · have hkn : k < rs.length := by have := HN.out; omega
      have hcf := cell_below HB.out HF.out
      have HCF := Lib.hid hcf
      obtain ⟨b, off, rfl, c1, c2⟩ := (HR.out.below HB.out) k hkn
      have HKN := Lib.hid hkn
      clear hkn hcf
      generalize hr : rs.getD k default = r at *
      have HRR := Lib.hid hr
      clear hr
      cases g : rngB r 1000
      · have HG : Hid (firstBad (rngB · 1000) rs 0 = (k : Int)) := by
          have := firstBad_at (d := default) (rngB · 1000) rs k 0 HA.out HKN.out (by show rngB _ 1000 = false; rw [HRR.out]; exact g)
          show firstBad (rngB · 1000) rs 0 = (k : Int)
          simpa using this
        have G := Lib.hid g
        clear g
        go_wp2_with fail
        refine (allR_cl _ _ _ HCF.out).mono ?_
        rintro e w' ⟨rfl, hb⟩
        rw [G.out]
        have HB2 := Lib.hid hb
        clear hb
        go_wp2
        go_ret
        exact ⟨ret_int HG.out.symm, HB.out.trans (HB2.out.mono HB.out.size)⟩
      · have G := Lib.hid g
        clear g
        go_wp2_with fail
        refine (allR_cl _ _ _ HCF.out).mono ?_
        rintro e w' ⟨rfl, hb⟩
        rw [G.out]
        have HB2 := Lib.hid hb
        clear hb
        go_wp2
        go_roundw
        case rel =>
          refine ⟨k + 1, by omega, by go_num, fun j hj => ?_, HB.out.trans (HB2.out.mono HB.out.size)⟩
          by_cases hjs : j < k
          · exact HA.out j hjs
          · have : j = k := by omega
            have h5 := G.out
            rw [← HRR.out] at h5
            rw [this]; exact h5
        case measure => simp [intOf]; omega
    · have HG : Hid (firstBad (rngB · 1000) rs 0 = -1) := firstBad_none (d := default) (rngB · 1000) rs k 0 HA.out (by have := HN.out; omega)
      go_wp2
      go_ret
      exact ⟨ret_int HG.out.symm, HB.out⟩

theorem allR_any (a : Option Addr) (cap : Nat) (rs : List Rng) (w : World) (hl : rs.length ≤ 1000) (hR : RngsAt w a rs) :
    Calls Try.prog 85 #[.slice a rs.length cap, .func (.func 86) #[] #[]] w fun e w' => e = .returned (.bool (rs.all (rngB · 1000))) ∧ Below w.heap.size w w' := by
  have HR := Lib.hid hR
  clear hR
  have HL := Lib.hid hl
  go_enter Try.func85, Try.ntmps85
  go_wp2_with (first | (go_at_call 104; go_in) | fail)
  refine (indexR_any _ _ _ _ _ HL.out (HR.out.below ((Below.refl _ _).alloc (Nat.le_refl _) _)) (by simp [go_sem])).mono ?_
  rintro e w' ⟨rfl, hb⟩
  have HB := Lib.hid hb
  clear hb
  go_wp2
  go_outline
  go_ret
  exact ⟨ret_bool (firstBad_ge _ _ _), ((Below.refl _ _).alloc (Nat.le_refl _) _).trans (HB.out.mono (by simp))⟩
end Go.Proofs.Ytfiacjdkdjkiiaa
end
section
namespace Go.Proofs.Ytfiacjdkdjkiiaa
open Go.RowKit
set_option linter.unusedVariables false

theorem allI_cl (lo hi : Int) (x : Int) (fb : Nat) (w : World) (hf : w.cell? ⟨fb, 0, none⟩ = some (.func (.func 72) #[.agg #[.int .i64 lo, .int .i64 hi]] #[])) :
    Calls Try.prog 99 #[.int .i64 x, .pointer (some ⟨fb, 0, none⟩)] w fun e w' => e = .returned (.bool (!inB x lo hi)) ∧ Below w.heap.size w w' := by
  have hlt : fb < w.heap.size := World.block_lt_of_cell? _ _ hf
  go_enter Try.func99, Try.ntmps99
  go_wp2_with fail
  refine (has_any lo hi _ _).mono ?_
  rintro e w' ⟨rfl, hb⟩
  have HB := Lib.hid hb
  clear hb
  go_wp2
  go_ret
  exact ⟨rfl, ((Below.refl _ _)).trans (HB.out.mono (by simp))⟩

set_option maxHeartbeats 400000 in
theorem indexI_any (lo hi : Int) (a : Option Addr) (cap fb : Nat) (rs : List Int) (w : World) (hl : rs.length ≤ 1000) (hR : IntsAt w a rs) (hf : w.cell? ⟨fb, 0, none⟩ = some (.func (.func 72) #[.agg #[.int .i64 lo, .int .i64 hi]] #[])) :
    Calls Try.prog 109 #[.slice a rs.length cap, .func (.func 99) #[] #[.pointer (some ⟨fb, 0, none⟩)]] w fun e w' => e = .returned (.int .i64 (firstBad (inB · lo hi) rs 0)) ∧ Below w.heap.size w w' := by
  have HR := Lib.hid hR; have HF := Lib.hid hf
  clear hR hf
  generalize hn : rs.length = n at *
  have HN := Lib.hid hn
  clear hn
  go_enter Try.func109, Try.ntmps109
  go_wp2
  go_loopw [8] (fun i wr => ∃ k : Nat, k ≤ n ∧ i = .int .i64 k ∧ (∀ j, j < k → inB (rs.getD j 0) lo hi = true) ∧ Below w.heap.size w wr) (fun i _ => n - (intOf i).toNat)
  case atStart => exact ⟨0, Nat.zero_le _, rfl, fun _ h => absurd h (Nat.not_lt_zero _), Below.refl _ _⟩
  case round =>
    obtain ⟨k, hk, rfl, hall, hbel⟩ := hrel
    have HA := Lib.hid hall; have HB := Lib.hid hbel
    clear hall hbel
    by_cases hlt : k < n
    · have hkn : k < rs.length := by have := HN.out; omega
      have hcf := cell_below HB.out HF.out
      have HCF := Lib.hid hcf
      obtain ⟨b, off, rfl, c1⟩ := (HR.out.below HB.out) k hkn
      have HKN := Lib.hid hkn
      clear hkn hcf
      generalize hr : rs.getD k 0 = r at *
      have HRR := Lib.hid hr
      clear hr
      cases g : inB r lo hi
      · have HG : Hid (firstBad (inB · lo hi) rs 0 = (k : Int)) := by
          have := firstBad_at (d := 0) (inB · lo hi) rs k 0 HA.out HKN.out (by show inB (rs.getD k 0) lo hi = false; rw [HRR.out]; exact g)
          show firstBad (inB · lo hi) rs 0 = (k : Int)
          simpa using this
        have G := Lib.hid g
        clear g
        go_wp2_with fail
        refine (allI_cl lo hi _ _ _ HCF.out).mono ?_
        rintro e w' ⟨rfl, hb⟩
        rw [G.out]
        have HB2 := Lib.hid hb
        clear hb
        go_wp2
        go_ret
        exact ⟨ret_int HG.out.symm, HB.out.trans (HB2.out.mono HB.out.size)⟩
      · have G := Lib.hid g
        clear g
        go_wp2_with fail
        refine (allI_cl lo hi _ _ _ HCF.out).mono ?_
        rintro e w' ⟨rfl, hb⟩
        rw [G.out]
        have HB2 := Lib.hid hb
        clear hb
        go_wp2
        go_roundw
        case rel =>
          refine ⟨k + 1, by omega, by go_num, fun j hj => ?_, HB.out.trans (HB2.out.mono HB.out.size)⟩
          by_cases hjs : j < k
          · exact HA.out j hjs
          · have : j = k := by omega
            have h5 := G.out
            rw [← HRR.out] at h5
            rw [this]; exact h5
        case measure => simp [intOf]; omega
    · have HG : Hid (firstBad (inB · lo hi) rs 0 = -1) := firstBad_none (d := 0) (inB · lo hi) rs k 0 HA.out (by have := HN.out; omega)
      go_wp2
      go_ret
      exact ⟨ret_int HG.out.symm, HB.out⟩

theorem allI_any (lo hi : Int) (a : Option Addr) (cap : Nat) (rs : List Int) (w : World) (hl : rs.length ≤ 1000) (hR : IntsAt w a rs) :
    Calls Try.prog 74 #[.slice a rs.length cap, .func (.func 72) #[.agg #[.int .i64 lo, .int .i64 hi]] #[]] w fun e w' => e = .returned (.bool (rs.all (inB · lo hi))) ∧ Below w.heap.size w w' := by
  have HR := Lib.hid hR
  clear hR
  have HL := Lib.hid hl
  go_enter Try.func74, Try.ntmps74
  go_wp2_with (first | (go_at_call 98; go_in) | fail)
  refine (indexI_any lo hi _ _ _ _ _ HL.out (HR.out.below ((Below.refl _ _).alloc (Nat.le_refl _) _)) (by simp [go_sem])).mono ?_
  rintro e w' ⟨rfl, hb⟩
  have HB := Lib.hid hb
  clear hb
  go_wp2
  go_ret
  exact ⟨ret_bool (firstBad_ge _ _ _), ((Below.refl _ _).alloc (Nat.le_refl _) _).trans (HB.out.mono (by simp))⟩

end Go.Proofs.Ytfiacjdkdjkiiaa
end
section
namespace Go.Proofs.Ytfiacjdkdjkiiaa
open Go.RowKit
set_option linter.unusedVariables false

theorem two_boxes {w : World} {o1 o2 : Obj} : Below w.heap.size w ((w.alloc o1).alloc o2) := ((Below.refl _ _).alloc (Nat.le_refl _) _).alloc (by simp) _

theorem dayB_eq (s : Int) (d : DayD) : dayB s d = (decide ((d.prices.length : Int) = s) && d.prices.all (rngB · 1000) && rngB d.rate 100) := by
  simp only [dayB, Bool.and_assoc]; rw [Bool.and_comm (rngB d.rate 100)]

set_option maxHeartbeats 400000 in
theorem day_any (st : Int) (da la pa : Option Addr) (dl dc ll lc pc : Nat) (d : DayD) (w : World) (hl : d.prices.length ≤ 1000) (hR : RngsAt w pa d.prices) :
    Calls Try.prog 59 #[.agg #[.int .i64 st, .slice da dl dc, .slice la ll lc], .agg #[.slice pa d.prices.length pc, .int .i64 d.rate.lo, .int .i64 d.rate.hi]] w fun e w' =>
      e = .returned (.bool (dayB st d)) ∧ Below w.heap.size w w' := by
  have HR := Lib.hid (hR.below (two_boxes (o1 := .cells #[.int .i64 st, .slice da dl dc, .slice la ll lc] 38) (o2 := .cells #[.slice pa d.prices.length pc, .int .i64 d.rate.lo, .int .i64 d.rate.hi] 111)))
  have HL := Lib.hid hl
  clear hR
  by_cases g1 : (d.prices.length : Int) = st
  case neg =>
    have HF : Hid (dayB st d = false) := dayB_len g1
    have g1' : ((d.prices.length : Int) == st) = false := by simpa using g1
    clear g1
    go_enter Try.func59, Try.ntmps59
    go_wp2
    go_ret
    exact ⟨ret_bool HF.out.symm, two_boxes⟩
  have g1' : ((d.prices.length : Int) == st) = true := by simpa using g1
  have G1 := Lib.hid g1
  clear g1
  cases g2 : d.prices.all (rngB · 1000)
  case false =>
    have HF : Hid (dayB st d = false) := by
      show dayB st d = false
      rw [dayB_eq, g2]; simp
    have G2 := Lib.hid g2
    clear g2
    go_enter Try.func59, Try.ntmps59
    go_wp2_with fail
    refine (allR_any _ _ _ _ HL.out HR.out).mono ?_
    rintro e w' ⟨rfl, hb⟩
    rw [G2.out]
    have HB := Lib.hid hb
    clear hb
    go_wp2
    go_ret
    exact ⟨ret_bool HF.out.symm, two_boxes.trans (HB.out.mono (by simp; omega))⟩
  have HF : Hid (rngB d.rate 100 = dayB st d) := by
    show rngB d.rate 100 = dayB st d
    rw [dayB_eq, g2, G1.out]; simp
  have G2 := Lib.hid g2
  clear g2
  go_enter Try.func59, Try.ntmps59
  go_wp2_with fail
  refine (allR_any _ _ _ _ HL.out HR.out).mono ?_
  rintro e w' ⟨rfl, hb⟩
  rw [G2.out]
  have HB := Lib.hid hb
  have hz : w.heap.size + 1 + 1 ≤ w'.heap.size := by have := hb.size; simpa using this
  obtain ⟨hc, hf⟩ := bcell hb
  clear hb
  go_wp2_with fail
  refine (rate_any _ _).mono ?_
  rintro e w'' ⟨rfl, hb⟩
  have HB2 := Lib.hid hb
  clear hb
  go_wp2
  go_ret
  exact ⟨ret_bool HF.out, (two_boxes.trans (HB.out.mono (by simp; omega))).trans (HB2.out.mono (by omega))⟩

theorem loanB_eq (s : Int) (l : LoanD) : loanB s l = (inB l.money 0 100000 && inB l.margin 0 100 && decide ((l.shares.length : Int) = s) && l.shares.all (inB · 0 100)) := rfl

set_option maxHeartbeats 400000 in
theorem loan_any (st : Int) (da la pa : Option Addr) (dl dc ll lc pc : Nat) (d : LoanD) (w : World) (hl : d.shares.length ≤ 1000) (hR : IntsAt w pa d.shares) :
    Calls Try.prog 60 #[.agg #[.int .i64 st, .slice da dl dc, .slice la ll lc], .agg #[.int .i64 d.money, .int .i64 d.margin, .slice pa d.shares.length pc]] w fun e w' =>
      e = .returned (.bool (loanB st d)) ∧ Below w.heap.size w w' := by
  have HR := Lib.hid (hR.below (two_boxes (o1 := .cells #[.int .i64 st, .slice da dl dc, .slice la ll lc] 38) (o2 := .cells #[.int .i64 d.money, .int .i64 d.margin, .slice pa d.shares.length pc] 109)))
  have HL := Lib.hid hl
  clear hR
  cases g1 : inB d.money 0 100000
  case false =>
    have HF : Hid (loanB st d = false) := loanB_money g1
    have G1 := Lib.hid g1
    clear g1
    go_enter Try.func60, Try.ntmps60
    go_wp2_with (go_at_call 69; refine (within_false _ _ _ _ G1.out).mono ?_; rintro e w' ⟨rfl, rfl⟩)
    go_ret
    exact ⟨ret_bool HF.out.symm, two_boxes⟩
  have G1 := Lib.hid g1
  clear g1
  cases g2 : inB d.margin 0 100
  case false =>
    have HF : Hid (loanB st d = false) := loanB_margin g2
    have G2 := Lib.hid g2
    clear g2
    go_enter Try.func60, Try.ntmps60
    go_wp2_with fail
    refine (within_true _ _ _ _ G1.out).mono ?_
    rintro e w' ⟨rfl, rfl⟩
    go_wp2_with fail
    refine (within_false _ _ _ _ G2.out).mono ?_
    rintro e w' ⟨rfl, rfl⟩
    go_wp2_with fail
    go_ret
    exact ⟨ret_bool HF.out.symm, two_boxes⟩
  have G2 := Lib.hid g2
  clear g2
  by_cases g3 : (d.shares.length : Int) = st
  case neg =>
    have HF : Hid (loanB st d = false) := loanB_len g3
    have g3' : ((d.shares.length : Int) == st) = false := by simpa using g3
    clear g3
    go_enter Try.func60, Try.ntmps60
    go_wp2_with fail
    refine (within_true _ _ _ _ G1.out).mono ?_
    rintro e w' ⟨rfl, rfl⟩
    go_wp2_with fail
    refine (within_true _ _ _ _ G2.out).mono ?_
    rintro e w' ⟨rfl, rfl⟩
    go_wp2_with fail
    go_ret
    exact ⟨ret_bool HF.out.symm, two_boxes⟩
  have g3' : ((d.shares.length : Int) == st) = true := by simpa using g3
  have HF : Hid (d.shares.all (inB · 0 100) = loanB st d) := by
    show d.shares.all (inB · 0 100) = loanB st d
    rw [loanB_eq, G1.out, G2.out, g3]; simp
  clear g3
  go_enter Try.func60, Try.ntmps60
  go_wp2_with fail
  refine (within_true _ _ _ _ G1.out).mono ?_
  rintro e w' ⟨rfl, rfl⟩
  go_wp2_with fail
  refine (within_true _ _ _ _ G2.out).mono ?_
  rintro e w' ⟨rfl, rfl⟩
  go_wp2_with fail
  refine (allI_any _ _ _ _ _ _ HL.out HR.out).mono ?_
  rintro e w' ⟨rfl, hb⟩
  have HB := Lib.hid hb
  clear hb
  go_wp2
  go_ret
  exact ⟨ret_bool HF.out, two_boxes.trans (HB.out.mono (by simp; omega))⟩
end Go.Proofs.Ytfiacjdkdjkiiaa
end
section
namespace Go.Proofs.Ytfiacjdkdjkiiaa
open Go.RowKit
set_option linter.unusedVariables false

theorem allD_cl (st : Int) (da la : Option Addr) (dl dc ll lc : Nat) (x : DayD) (pa : Option Addr) (pc : Nat) (fb : Nat) (w : World) (hf : w.cell? ⟨fb, 0, none⟩ = some (.func (.func 59) #[.agg #[.int .i64 st, .slice da dl dc, .slice la ll lc]] #[])) (he : RngsAt w pa x.prices) (hel : x.prices.length ≤ 1000) :
    Calls Try.prog 89 #[.agg #[.slice pa x.prices.length pc, .int .i64 x.rate.lo, .int .i64 x.rate.hi], .pointer (some ⟨fb, 0, none⟩)] w fun e w' => e = .returned (.bool (!dayB st x)) ∧ Below w.heap.size w w' := by
  have hlt : fb < w.heap.size := World.block_lt_of_cell? _ _ hf
  have HE := Lib.hid he; have HEL := Lib.hid hel
  clear he
  go_enter Try.func89, Try.ntmps89
  go_wp2_with fail
  refine (day_any st da la _ dl dc ll lc _ _ _ HEL.out (HE.out.below ((Below.refl _ _).alloc (Nat.le_refl _) _))).mono ?_
  rintro e w' ⟨rfl, hb⟩
  have HB := Lib.hid hb
  clear hb
  go_wp2
  go_ret
  exact ⟨rfl, ((Below.refl _ _).alloc (Nat.le_refl _) _).trans (HB.out.mono (by simp))⟩

set_option maxHeartbeats 400000 in
theorem indexD_any (st : Int) (da la : Option Addr) (dl dc ll lc : Nat) (a : Option Addr) (cap fb : Nat) (rs : List DayD) (w : World) (hl : rs.length ≤ 1000) (hR : DaysAt w a rs) (hf : w.cell? ⟨fb, 0, none⟩ = some (.func (.func 59) #[.agg #[.int .i64 st, .slice da dl dc, .slice la ll lc]] #[])) (hin : ∀ k, k < rs.length → (rs.getD k default).prices.length ≤ 1000) :
    Calls Try.prog 106 #[.slice a rs.length cap, .func (.func 89) #[] #[.pointer (some ⟨fb, 0, none⟩)]] w fun e w' => e = .returned (.int .i64 (firstBad (dayB st ·) rs 0)) ∧ Below w.heap.size w w' := by
  have HR := Lib.hid hR; have HF := Lib.hid hf
  have HIN := Lib.hid hin
  clear hin
  clear hR hf
  generalize hn : rs.length = n at *
  have HN := Lib.hid hn
  clear hn
  go_enter Try.func106, Try.ntmps106
  go_wp2
  go_loopw [8] (fun i wr => ∃ k : Nat, k ≤ n ∧ i = .int .i64 k ∧ (∀ j, j < k → dayB st (rs.getD j default) = true) ∧ Below w.heap.size w wr) (fun i _ => n - (intOf i).toNat)
  case atStart => exact ⟨0, Nat.zero_le _, rfl, fun _ h => absurd h (Nat.not_lt_zero _), Below.refl _ _⟩
  case round =>
    obtain ⟨k, hk, rfl, hall, hbel⟩ := hrel
    have HA := Lib.hid hall; have HB := Lib.hid hbel
    clear hall hbel
    by_cases hlt : k < n
    · have hkn : k < rs.length := by have := HN.out; omega
      have hcf := cell_below HB.out HF.out
      have HCF := Lib.hid hcf
      obtain ⟨b, off, pa, pc, rfl, c1, c2, c3, hp⟩ := (HR.out.below HB.out) k hkn
      have HKN := Lib.hid hkn
      clear hkn hcf
      generalize hr : rs.getD k default = r at *
      have HRR := Lib.hid hr
      clear hr
      have hpl := HIN.out k hlt
      rw [HRR.out] at hpl
      have HPL := Lib.hid hpl; have HP := Lib.hid hp
      clear hpl hp
      cases g : dayB st r
      · have HG : Hid (firstBad (dayB st ·) rs 0 = (k : Int)) := by
          have := firstBad_at (d := default) (dayB st ·) rs k 0 HA.out HKN.out (by show dayB st (rs.getD k default) = false; rw [HRR.out]; exact g)
          show firstBad (dayB st ·) rs 0 = (k : Int)
          simpa using this
        have G := Lib.hid g
        clear g
        go_wp2_with fail
        refine (allD_cl st da la dl dc ll lc _ _ _ _ _ HCF.out HP.out HPL.out).mono ?_
        rintro e w' ⟨rfl, hb⟩
        rw [G.out]
        have HB2 := Lib.hid hb
        clear hb
        go_wp2
        go_ret
        exact ⟨ret_int HG.out.symm, HB.out.trans (HB2.out.mono HB.out.size)⟩
      · have G := Lib.hid g
        clear g
        go_wp2_with fail
        refine (allD_cl st da la dl dc ll lc _ _ _ _ _ HCF.out HP.out HPL.out).mono ?_
        rintro e w' ⟨rfl, hb⟩
        rw [G.out]
        have HB2 := Lib.hid hb
        clear hb
        go_wp2
        go_roundw
        case rel =>
          refine ⟨k + 1, by omega, by go_num, fun j hj => ?_, HB.out.trans (HB2.out.mono HB.out.size)⟩
          by_cases hjs : j < k
          · exact HA.out j hjs
          · have : j = k := by omega
            have h5 := G.out
            rw [← HRR.out] at h5
            rw [this]; exact h5
        case measure => simp [intOf]; omega
    · have HG : Hid (firstBad (dayB st ·) rs 0 = -1) := firstBad_none (d := default) (dayB st ·) rs k 0 HA.out (by have := HN.out; omega)
      go_wp2
      go_ret
      exact ⟨ret_int HG.out.symm, HB.out⟩

theorem allD_any (st : Int) (da la : Option Addr) (dl dc ll lc : Nat) (a : Option Addr) (cap : Nat) (rs : List DayD) (w : World) (hl : rs.length ≤ 1000) (hR : DaysAt w a rs) (hin : ∀ k, k < rs.length → (rs.getD k default).prices.length ≤ 1000) :
    Calls Try.prog 61 #[.slice a rs.length cap, .func (.func 59) #[.agg #[.int .i64 st, .slice da dl dc, .slice la ll lc]] #[]] w fun e w' => e = .returned (.bool (rs.all (dayB st ·))) ∧ Below w.heap.size w w' := by
  have HR := Lib.hid hR
  have HIN := Lib.hid hin
  clear hin
  clear hR
  have HL := Lib.hid hl
  go_enter Try.func61, Try.ntmps61
  go_wp2_with (first | (go_at_call 88; go_in) | fail)
  refine (indexD_any st da la dl dc ll lc _ _ _ _ _ HL.out (HR.out.below ((Below.refl _ _).alloc (Nat.le_refl _) _)) (by simp [go_sem]) HIN.out).mono ?_
  rintro e w' ⟨rfl, hb⟩
  have HB := Lib.hid hb
  clear hb
  go_wp2
  go_ret
  exact ⟨ret_bool (firstBad_ge _ _ _), ((Below.refl _ _).alloc (Nat.le_refl _) _).trans (HB.out.mono (by simp))⟩

theorem allL_cl (st : Int) (da la : Option Addr) (dl dc ll lc : Nat) (x : LoanD) (pa : Option Addr) (pc : Nat) (fb : Nat) (w : World) (hf : w.cell? ⟨fb, 0, none⟩ = some (.func (.func 60) #[.agg #[.int .i64 st, .slice da dl dc, .slice la ll lc]] #[])) (he : IntsAt w pa x.shares) (hel : x.shares.length ≤ 1000) :
    Calls Try.prog 91 #[.agg #[.int .i64 x.money, .int .i64 x.margin, .slice pa x.shares.length pc], .pointer (some ⟨fb, 0, none⟩)] w fun e w' => e = .returned (.bool (!loanB st x)) ∧ Below w.heap.size w w' := by
  have hlt : fb < w.heap.size := World.block_lt_of_cell? _ _ hf
  have HE := Lib.hid he; have HEL := Lib.hid hel
  clear he
  go_enter Try.func91, Try.ntmps91
  go_wp2_with fail
  refine (loan_any st da la _ dl dc ll lc _ _ _ HEL.out (HE.out.below ((Below.refl _ _).alloc (Nat.le_refl _) _))).mono ?_
  rintro e w' ⟨rfl, hb⟩
  have HB := Lib.hid hb
  clear hb
  go_wp2
  go_ret
  exact ⟨rfl, ((Below.refl _ _).alloc (Nat.le_refl _) _).trans (HB.out.mono (by simp))⟩

set_option maxHeartbeats 400000 in
theorem indexL_any (st : Int) (da la : Option Addr) (dl dc ll lc : Nat) (a : Option Addr) (cap fb : Nat) (rs : List LoanD) (w : World) (hl : rs.length ≤ 1000) (hR : LoansAt w a rs) (hf : w.cell? ⟨fb, 0, none⟩ = some (.func (.func 60) #[.agg #[.int .i64 st, .slice da dl dc, .slice la ll lc]] #[])) (hin : ∀ k, k < rs.length → (rs.getD k default).shares.length ≤ 1000) :
    Calls Try.prog 107 #[.slice a rs.length cap, .func (.func 91) #[] #[.pointer (some ⟨fb, 0, none⟩)]] w fun e w' => e = .returned (.int .i64 (firstBad (loanB st ·) rs 0)) ∧ Below w.heap.size w w' := by
  have HR := Lib.hid hR; have HF := Lib.hid hf
  have HIN := Lib.hid hin
  clear hin
  clear hR hf
  generalize hn : rs.length = n at *
  have HN := Lib.hid hn
  clear hn
  go_enter Try.func107, Try.ntmps107
  go_wp2
  go_loopw [8] (fun i wr => ∃ k : Nat, k ≤ n ∧ i = .int .i64 k ∧ (∀ j, j < k → loanB st (rs.getD j default) = true) ∧ Below w.heap.size w wr) (fun i _ => n - (intOf i).toNat)
  case atStart => exact ⟨0, Nat.zero_le _, rfl, fun _ h => absurd h (Nat.not_lt_zero _), Below.refl _ _⟩
  case round =>
    obtain ⟨k, hk, rfl, hall, hbel⟩ := hrel
    have HA := Lib.hid hall; have HB := Lib.hid hbel
    clear hall hbel
    by_cases hlt : k < n
    · have hkn : k < rs.length := by have := HN.out; omega
      have hcf := cell_below HB.out HF.out
      have HCF := Lib.hid hcf
      obtain ⟨b, off, pa, pc, rfl, c1, c2, c3, hp⟩ := (HR.out.below HB.out) k hkn
      have HKN := Lib.hid hkn
      clear hkn hcf
      generalize hr : rs.getD k default = r at *
      have HRR := Lib.hid hr
      clear hr
      have hpl := HIN.out k hlt
      rw [HRR.out] at hpl
      have HPL := Lib.hid hpl; have HP := Lib.hid hp
      clear hpl hp
      cases g : loanB st r
      · have HG : Hid (firstBad (loanB st ·) rs 0 = (k : Int)) := by
          have := firstBad_at (d := default) (loanB st ·) rs k 0 HA.out HKN.out (by show loanB st (rs.getD k default) = false; rw [HRR.out]; exact g)
          show firstBad (loanB st ·) rs 0 = (k : Int)
          simpa using this
        have G := Lib.hid g
        clear g
        go_wp2_with fail
        refine (allL_cl st da la dl dc ll lc _ _ _ _ _ HCF.out HP.out HPL.out).mono ?_
        rintro e w' ⟨rfl, hb⟩
        rw [G.out]
        have HB2 := Lib.hid hb
        clear hb
        go_wp2
        go_ret
        exact ⟨ret_int HG.out.symm, HB.out.trans (HB2.out.mono HB.out.size)⟩
      · have G := Lib.hid g
        clear g
        go_wp2_with fail
        refine (allL_cl st da la dl dc ll lc _ _ _ _ _ HCF.out HP.out HPL.out).mono ?_
        rintro e w' ⟨rfl, hb⟩
        rw [G.out]
        have HB2 := Lib.hid hb
        clear hb
        go_wp2
        go_roundw
        case rel =>
          refine ⟨k + 1, by omega, by go_num, fun j hj => ?_, HB.out.trans (HB2.out.mono HB.out.size)⟩
          by_cases hjs : j < k
          · exact HA.out j hjs
          · have : j = k := by omega
            have h5 := G.out
            rw [← HRR.out] at h5
            rw [this]; exact h5
        case measure => simp [intOf]; omega
    · have HG : Hid (firstBad (loanB st ·) rs 0 = -1) := firstBad_none (d := default) (loanB st ·) rs k 0 HA.out (by have := HN.out; omega)
      go_wp2
      go_ret
      exact ⟨ret_int HG.out.symm, HB.out⟩

theorem allL_any (st : Int) (da la : Option Addr) (dl dc ll lc : Nat) (a : Option Addr) (cap : Nat) (rs : List LoanD) (w : World) (hl : rs.length ≤ 1000) (hR : LoansAt w a rs) (hin : ∀ k, k < rs.length → (rs.getD k default).shares.length ≤ 1000) :
    Calls Try.prog 62 #[.slice a rs.length cap, .func (.func 60) #[.agg #[.int .i64 st, .slice da dl dc, .slice la ll lc]] #[]] w fun e w' => e = .returned (.bool (rs.all (loanB st ·))) ∧ Below w.heap.size w w' := by
  have HR := Lib.hid hR
  have HIN := Lib.hid hin
  clear hin
  clear hR
  have HL := Lib.hid hl
  go_enter Try.func62, Try.ntmps62
  go_wp2_with (first | (go_at_call 90; go_in) | fail)
  refine (indexL_any st da la dl dc ll lc _ _ _ _ _ HL.out (HR.out.below ((Below.refl _ _).alloc (Nat.le_refl _) _)) (by simp [go_sem]) HIN.out).mono ?_
  rintro e w' ⟨rfl, hb⟩
  have HB := Lib.hid hb
  clear hb
  go_wp2
  go_ret
  exact ⟨ret_bool (firstBad_ge _ _ _), ((Below.refl _ _).alloc (Nat.le_refl _) _).trans (HB.out.mono (by simp))⟩

end Go.Proofs.Ytfiacjdkdjkiiaa
end
section
namespace Go.Proofs.Ytfiacjdkdjkiiaa
open Go.RowKit
set_option linter.unusedVariables false

/-- the lists inside a bank are short -/
def Short (b : BankD) : Prop := (∀ k, k < b.days.length → (b.days.getD k default).prices.length ≤ 1000) ∧ (∀ k, k < b.loans.length → (b.loans.getD k default).shares.length ≤ 1000) ∧ b.days.length ≤ 1000 ∧ b.loans.length ≤ 1000

set_option maxRecDepth 100000 in
set_option maxHeartbeats 1000000 in
theorem check_any (da la : Option Addr) (dc lc : Nat) (b : BankD) (w : World) (hB : BankAt w da la b) (hS : Short b) :
    Calls Try.prog 23 #[.agg #[.int .i64 b.stocks, .slice da b.days.length dc, .slice la b.loans.length lc]] w fun e w' => e = .returned (.int .i64 (faultN b)) ∧ Below w.heap.size w w' := by
  have HBB := Lib.hid (hB.below ((Below.refl _ _).alloc (Nat.le_refl _) (.cells #[.int .i64 b.stocks, .slice da b.days.length dc, .slice la b.loans.length lc] 38)))
  have HS := Lib.hid hS
  obtain ⟨_, _, hdl, hll⟩ := hS
  clear hB
  have hbox : Below w.heap.size w (w.alloc (.cells #[.int .i64 b.stocks, .slice da b.days.length dc, .slice la b.loans.length lc] 38)) := (Below.refl _ _).alloc (Nat.le_refl _) _
  have HBX := Lib.hid hbox
  clear hbox
  by_cases h1 : 4 < b.stocks
  · have HF : Hid (faultN b = 3) := fault_3 (by simp [greatB]; omega)
    go_enter Try.func23, Try.ntmps23
    go_wp2
    go_region
    go_wp2
    go_ret
    exact ⟨ret_int HF.out.symm, HBX.out.drew⟩
  by_cases h2 : 4 < b.days.length
  · have HF : Hid (faultN b = 3) := fault_3 (by simp [greatB]; omega)
    go_enter Try.func23, Try.ntmps23
    go_wp2
    go_region
    go_wp2
    go_ret
    exact ⟨ret_int HF.out.symm, HBX.out.drew⟩
  by_cases h3 : 4 < b.loans.length
  · have HF : Hid (faultN b = 3) := fault_3 (by simp [greatB]; omega)
    go_enter Try.func23, Try.ntmps23
    go_wp2
    go_region
    go_wp2
    go_ret
    exact ⟨ret_int HF.out.symm, HBX.out.drew⟩
  have hG : Hid (greatB b = false) := by
    show greatB b = false
    simp [greatB]; omega
  by_cases h4 : b.stocks < 1
  · have HF : Hid (faultN b = 1) := fault_1 hG.out (by simp [bankB]; omega)
    go_enter Try.func23, Try.ntmps23
    go_wp2
    go_region
    go_wp2
    go_ret
    exact ⟨ret_int HF.out.symm, HBX.out.drew⟩
  by_cases h5 : b.days.length = 0
  · have HF : Hid (faultN b = 1) := fault_1 hG.out (by have := List.length_eq_zero_iff.1 h5; simp [bankB, this])
    have h5' : ((b.days.length : Int) == 0) = true := by simp; exact List.length_eq_zero_iff.1 h5
    clear h5
    go_enter Try.func23, Try.ntmps23
    go_wp2
    go_region
    go_wp2
    go_ret
    exact ⟨ret_int HF.out.symm, HBX.out.drew⟩
  have h5' : ((b.days.length : Int) == 0) = false := by simp; intro e; exact h5 (by simp [e])
  have H5 := Lib.hid h5
  clear h5
  cases g1 : b.days.all (dayB b.stocks)
  case false =>
    have HF : Hid (faultN b = 1) := fault_1 hG.out (by simp [bankB, g1])
    have G1 := Lib.hid g1
    clear g1
    go_enter Try.func23, Try.ntmps23
    go_wp2
    go_region
    go_wp2_with fail
    refine (allD_any _ _ _ _ _ _ _ _ _ _ _ HS.out.2.2.1 (HBB.out.1.below (Below.refl _ _).drew) HS.out.1).mono ?_
    rintro e w' ⟨rfl, hb⟩
    rw [G1.out]
    have HB := Lib.hid hb
    clear hb
    go_wp2
    go_ret
    exact ⟨ret_int HF.out.symm, HBX.out.drew.trans (HB.out.mono (by simp))⟩
  have G1 := Lib.hid g1
  clear g1
  have HF : Hid (faultN b = if b.loans.all (loanB b.stocks) then 0 else 1) := by
    show faultN b = if b.loans.all (loanB b.stocks) then 0 else 1
    have e : b.days.isEmpty = false := by
      cases e : b.days with
      | nil => exact absurd (by rw [e]; rfl) H5.out
      | cons => rfl
    have e2 : decide (1 ≤ b.stocks) = true := by simp; omega
    simp only [faultN, hG.out, bankB, G1.out, e, e2, Bool.not_false, Bool.and_self, Bool.true_and, Bool.false_eq_true, if_false]
  cases g2 : b.loans.all (loanB b.stocks)
  all_goals
    rw [g2] at HF
    have G2 := Lib.hid g2
    clear g2
    go_enter Try.func23, Try.ntmps23
    go_wp2
    go_region
    go_wp2_with fail
    refine (allD_any _ _ _ _ _ _ _ _ _ _ _ HS.out.2.2.1 (HBB.out.1.below (Below.refl _ _).drew) HS.out.1).mono ?_
    rintro e w' ⟨rfl, hb⟩
    rw [G1.out]
    have HB := Lib.hid hb
    have hz : w.heap.size + 1 ≤ w'.heap.size := by have := hb.size; simpa using this
    obtain ⟨hc, hf⟩ := bcell hb
    clear hb
    go_wp2_with fail
    refine (allL_any _ _ _ _ _ _ _ _ _ _ _ HS.out.2.2.2 ((HBB.out.2.below (Below.refl _ _).drew).below HB.out) HS.out.2.1).mono ?_
    rintro e w'' ⟨rfl, hb⟩
    rw [G2.out]
    have HB2 := Lib.hid hb
    clear hb
    go_wp2
    go_ret
    exact ⟨ret_int HF.out.symm, (HBX.out.drew.trans (HB.out.mono (by simp))).trans (HB2.out.mono (by omega))⟩
end Go.Proofs.Ytfiacjdkdjkiiaa
end
