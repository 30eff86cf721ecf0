/- Walks over margin.within, Range.has, price, rate, and all[Range]. -/
import Derived.Test.YtfiacjdkdjkiiaaW1
namespace Go.Proofs.Ytfiacjdkdjkiiaa
open Go.RowKit
set_option linter.unusedVariables false

theorem within_true (n lo hi : Int) (w : World) (h : inB n lo hi = true) :
    Calls Try.prog 69 #[.int .i64 n, .int .i64 lo, .int .i64 hi] w fun e w' => e = .returned (.bool true) ∧ w = w' := by
  have h' : lo ≤ n ∧ n ≤ hi := by simpa [inB] using h
  obtain ⟨h1, h2⟩ := h'
  clear h
  go_enter Try.func69, Try.ntmps69
  go_wp2
  go_ret
  exact ⟨rfl, rfl⟩
theorem within_false (n lo hi : Int) (w : World) (h : inB n lo hi = false) :
    Calls Try.prog 69 #[.int .i64 n, .int .i64 lo, .int .i64 hi] w fun e w' => e = .returned (.bool false) ∧ w = w' := by
  have h' : ¬ (lo ≤ n ∧ n ≤ hi) := by simpa [inB] using h
  clear h
  by_cases h1 : lo ≤ n
  · have h2 : ¬ n ≤ hi := fun x => h' ⟨h1, x⟩
    clear h'
    go_enter Try.func69, Try.ntmps69
    go_wp2
    go_ret
    exact ⟨rfl, rfl⟩
  · clear h'
    go_enter Try.func69, Try.ntmps69
    go_wp2
    go_ret
    exact ⟨rfl, rfl⟩
theorem within_any (n lo hi : Int) (w : World) :
    Calls Try.prog 69 #[.int .i64 n, .int .i64 lo, .int .i64 hi] w fun e w' => e = .returned (.bool (inB n lo hi)) ∧ w = w' := by
  cases h : inB n lo hi
  · exact within_false n lo hi w h
  · exact within_true n lo hi w h

theorem has_any (lo hi n : Int) (w : World) :
    Calls Try.prog 72 #[.agg #[.int .i64 lo, .int .i64 hi], .int .i64 n] w fun e w' => e = .returned (.bool (inB n lo hi)) ∧ Below w.heap.size w w' := by
  go_enter Try.func72, Try.ntmps72
  go_wp2_with (go_at_call 69; refine (within_any _ _ _ _).mono ?_; rintro e w' ⟨rfl, rfl⟩)
  go_ret
  exact ⟨rfl, (Below.refl _ _).alloc (Nat.le_refl _) _⟩

theorem price_any (r : Rng) (w : World) :
    Calls Try.prog 86 #[.agg #[.int .i64 r.lo, .int .i64 r.hi]] w fun e w' => e = .returned (.bool (rngB r 1000)) ∧ Below w.heap.size w w' := by
  by_cases h1 : 0 ≤ r.lo
  · by_cases h2 : r.lo ≤ r.hi
    · have g : inB r.lo 0 r.hi = true := by simp [inB, h1, h2]
      by_cases h3 : r.hi ≤ 1000
      · have HF : Hid (rngB r 1000 = true) := rngB_ok g (by omega)
        clear g
        go_enter Try.func86, Try.ntmps86
        go_wp2
        go_ret
        exact ⟨ret_bool HF.out.symm, (Below.refl _ _).alloc (Nat.le_refl _) _⟩
      · have HF : Hid (rngB r 1000 = false) := rngB_hi (by omega)
        clear g
        go_enter Try.func86, Try.ntmps86
        go_wp2
        go_ret
        exact ⟨ret_bool HF.out.symm, (Below.refl _ _).alloc (Nat.le_refl _) _⟩
    · have HF : Hid (rngB r 1000 = false) := rngB_in (by simp [inB]; omega)
      go_enter Try.func86, Try.ntmps86
      go_wp2
      go_ret
      exact ⟨ret_bool HF.out.symm, (Below.refl _ _).alloc (Nat.le_refl _) _⟩
  · have HF : Hid (rngB r 1000 = false) := rngB_in (by simp [inB]; omega)
    go_enter Try.func86, Try.ntmps86
    go_wp2
    go_ret
    exact ⟨ret_bool HF.out.symm, (Below.refl _ _).alloc (Nat.le_refl _) _⟩

theorem rng_1000 {r : Rng} (h : rngB r 100 = true) : rngB r 1000 = true := by
  simp [rngB] at *; exact ⟨h.1, by omega⟩
theorem rng_100 {r : Rng} (h : rngB r 1000 = true) (h' : r.hi ≤ 100) : rngB r 100 = true := by
  simp [rngB] at *; exact ⟨h.1, h'⟩

theorem bcell {W w1 : World} (hb : Below W.heap.size W w1) : (∀ b o, b < W.heap.size → w1.cell? ⟨b, o, none⟩ = W.cell? ⟨b, o, none⟩) ∧ (∀ b o, b < W.heap.size → w1.frozen? ⟨b, o, none⟩ = W.frozen? ⟨b, o, none⟩) :=
  ⟨fun b o h => hb.cell (p := ⟨b, o, none⟩) h, fun b o h => hb.frozen (p := ⟨b, o, none⟩) h⟩

theorem rate_any (r : Rng) (w : World) :
    Calls Try.prog 87 #[.agg #[.int .i64 r.lo, .int .i64 r.hi]] w fun e w' => e = .returned (.bool (rngB r 100)) ∧ Below w.heap.size w w' := by
  cases h0 : rngB r 1000
  · have HF : Hid (rngB r 100 = false) := by
      show rngB r 100 = false
      cases e : rngB r 100
      · rfl
      · rw [rng_1000 e] at h0; cases h0
    have H0 := Lib.hid h0
    clear h0
    go_enter Try.func87, Try.ntmps87
    go_wp2_with fail
    refine (price_any _ _).mono ?_
    rintro e w' ⟨rfl, hb⟩
    rw [H0.out]
    have HB := Lib.hid hb
    clear hb
    go_wp2
    go_ret
    exact ⟨ret_bool HF.out.symm, ((Below.refl _ _).alloc (Nat.le_refl _) _).trans (HB.out.mono (by simp))⟩
  · have H0 := Lib.hid h0
    clear h0
    by_cases h3 : r.hi ≤ 100
    · have HF : Hid (rngB r 100 = true) := rng_100 H0.out h3
      go_enter Try.func87, Try.ntmps87
      go_wp2_with fail
      refine (price_any _ _).mono ?_
      rintro e w' ⟨rfl, hb⟩
      rw [H0.out]
      have HB := Lib.hid hb
      obtain ⟨hc, hf⟩ := bcell hb
      clear hb
      go_wp2
      go_ret
      exact ⟨ret_bool HF.out.symm, ((Below.refl _ _).alloc (Nat.le_refl _) _).trans (HB.out.mono (by simp))⟩
    · have HF : Hid (rngB r 100 = false) := rngB_hi (by omega)
      go_enter Try.func87, Try.ntmps87
      go_wp2_with fail
      refine (price_any _ _).mono ?_
      rintro e w' ⟨rfl, hb⟩
      rw [H0.out]
      have HB := Lib.hid hb
      obtain ⟨hc, hf⟩ := bcell hb
      clear hb
      go_wp2
      go_ret
      exact ⟨ret_bool (by rw [HF.out]; simp; omega), ((Below.refl _ _).alloc (Nat.le_refl _) _).trans (HB.out.mono (by simp))⟩

theorem allR_cl (r : Rng) (fb : Nat) (w : World) (hf : w.cell? ⟨fb, 0, none⟩ = some (.func (.func 86) #[] #[])) :
    Calls Try.prog 105 #[.agg #[.int .i64 r.lo, .int .i64 r.hi], .pointer (some ⟨fb, 0, none⟩)] w fun e w' => e = .returned (.bool (!rngB r 1000)) ∧ Below w.heap.size w w' := by
  have hlt : fb < w.heap.size := World.block_lt_of_cell? _ _ hf
  go_enter Try.func105, Try.ntmps105
  go_wp2_with fail
  refine (price_any _ _).mono ?_
  rintro e w' ⟨rfl, hb⟩
  have HB := Lib.hid hb
  clear hb
  go_wp2
  go_ret
  exact ⟨rfl, ((Below.refl _ _).alloc (Nat.le_refl _) _).trans (HB.out.mono (by simp))⟩

/-- the first index at which p fails; -1 if there is none -/
def firstBad {α : Type} (p : α → Bool) : List α → Nat → Int
  | [], _ => -1
  | x :: l, i => if p x then firstBad p l (i + 1) else i
theorem firstBad_none {α : Type} {d : α} (p : α → Bool) (l : List α) (k i : Nat) (h : ∀ j, j < k → p (l.getD j d) = true) (hk : k = l.length) : firstBad p l i = -1 := by
  induction l generalizing k i with
  | nil => rfl
  | cons x l ih =>
    have h0 := h 0 (by rw [hk]; simp)
    simp at h0
    simp only [firstBad, h0, if_true]
    exact ih (k - 1) (i + 1) (fun j hj => by have := h (j + 1) (by omega); simpa using this) (by rw [hk]; simp)
theorem firstBad_at {α : Type} {d : α} (p : α → Bool) (l : List α) (k i : Nat) (h : ∀ j, j < k → p (l.getD j d) = true) (hk : k < l.length) (hf : p (l.getD k d) = false) : firstBad p l i = ((i + k : Nat) : Int) := by
  induction l generalizing k i with
  | nil => simp at hk
  | cons x l ih =>
    cases k with
    | zero => simp at hf; simp [firstBad, hf]
    | succ k =>
      have h0 := h 0 (by omega)
      simp at h0
      simp only [firstBad, h0, if_true]
      rw [ih k (i + 1) (fun j hj => by have := h (j + 1) (by omega); simpa using this) (by simpa using hk) (by simpa using hf)]
      congr 1; omega
theorem firstBad_iff {α : Type} (p : α → Bool) (l : List α) (i : Nat) : (0 ≤ firstBad p l i) ↔ l.all p = false := by
  induction l generalizing i with
  | nil => simp [firstBad]
  | cons x l ih =>
    by_cases hx : p x = true
    · simp only [firstBad, List.all_cons, hx, if_true, Bool.true_and]; exact ih (i + 1)
    · simp at hx; simp [firstBad, hx]
theorem firstBad_ge {α : Type} (p : α → Bool) (l : List α) (i : Nat) : (!decide (0 ≤ firstBad p l i)) = l.all p := by
  cases h : l.all p
  · simp [(firstBad_iff p l i).2 h]
  · have : ¬ 0 ≤ firstBad p l i := fun x => by rw [(firstBad_iff p l i).1 x] at h; cases h
    simp [this]

set_option maxHeartbeats 400000 in
theorem indexR_any (a : Option Addr) (cap fb : Nat) (rs : List Rng) (w : World) (hl : rs.length ≤ 1000) (hR : RngsAt w a rs) (hf : w.cell? ⟨fb, 0, none⟩ = some (.func (.func 86) #[] #[])) :
    Calls Try.prog 112 #[.slice a rs.length cap, .func (.func 105) #[] #[.pointer (some ⟨fb, 0, none⟩)]] w fun e w' => e = .returned (.int .i64 (firstBad (rngB · 1000) rs 0)) ∧ Below w.heap.size w w' := by
  have HR := Lib.hid hR; have HF := Lib.hid hf
  clear hR hf
  generalize hn : rs.length = n at *
  have HN := Lib.hid hn
  clear hn
  go_enter Try.func112, Try.ntmps112
  go_wp2
  go_loopw [8] (fun i wr => ∃ k : Nat, k ≤ n ∧ i = .int .i64 k ∧ (∀ j, j < k → rngB (rs.getD j default) 1000 = true) ∧ Below w.heap.size w wr) (fun i _ => n - (intOf i).toNat)
  case atStart => exact ⟨0, Nat.zero_le _, rfl, fun _ h => absurd h (Nat.not_lt_zero _), Below.refl _ _⟩
  case round =>
    obtain ⟨k, hk, rfl, hall, hbel⟩ := hrel
    have HA := Lib.hid hall; have HB := Lib.hid hbel
    clear hall hbel
    by_cases hlt : k < n
    · have hkn : k < rs.length := by have := HN.out; omega
      have hcf := cell_below HB.out HF.out
      have HCF := Lib.hid hcf
      obtain ⟨b, off, rfl, c1, c2⟩ := (HR.out.below HB.out) k hkn
      have HKN := Lib.hid hkn
      clear hkn hcf
      generalize hr : rs.getD k default = r at *
      have HRR := Lib.hid hr
      clear hr
      cases g : rngB r 1000
      · have HG : Hid (firstBad (rngB · 1000) rs 0 = (k : Int)) := by
          have := firstBad_at (d := default) (rngB · 1000) rs k 0 HA.out HKN.out (by show rngB _ 1000 = false; rw [HRR.out]; exact g)
          show firstBad (rngB · 1000) rs 0 = (k : Int)
          simpa using this
        have G := Lib.hid g
        clear g
        go_wp2_with fail
        refine (allR_cl _ _ _ HCF.out).mono ?_
        rintro e w' ⟨rfl, hb⟩
        rw [G.out]
        have HB2 := Lib.hid hb
        clear hb
        go_wp2
        go_ret
        exact ⟨ret_int HG.out.symm, HB.out.trans (HB2.out.mono HB.out.size)⟩
      · have G := Lib.hid g
        clear g
        go_wp2_with fail
        refine (allR_cl _ _ _ HCF.out).mono ?_
        rintro e w' ⟨rfl, hb⟩
        rw [G.out]
        have HB2 := Lib.hid hb
        clear hb
        go_wp2
        go_roundw
        case rel =>
          refine ⟨k + 1, by omega, by go_num, fun j hj => ?_, HB.out.trans (HB2.out.mono HB.out.size)⟩
          by_cases hjs : j < k
          · exact HA.out j hjs
          · have : j = k := by omega
            have h5 := G.out
            rw [← HRR.out] at h5
            rw [this]; exact h5
        case measure => simp [intOf]; omega
    · have HG : Hid (firstBad (rngB · 1000) rs 0 = -1) := firstBad_none (d := default) (rngB · 1000) rs k 0 HA.out (by have := HN.out; omega)
      go_wp2
      go_ret
      exact ⟨ret_int HG.out.symm, HB.out⟩

theorem allR_any (a : Option Addr) (cap : Nat) (rs : List Rng) (w : World) (hl : rs.length ≤ 1000) (hR : RngsAt w a rs) :
    Calls Try.prog 85 #[.slice a rs.length cap, .func (.func 86) #[] #[]] w fun e w' => e = .returned (.bool (rs.all (rngB · 1000))) ∧ Below w.heap.size w w' := by
  have HR := Lib.hid hR
  clear hR
  have HL := Lib.hid hl
  go_enter Try.func85, Try.ntmps85
  go_wp2_with (first | (go_at_call 104; go_in) | fail)
  refine (indexR_any _ _ _ _ _ HL.out (HR.out.below ((Below.refl _ _).alloc (Nat.le_refl _) _)) (by simp [go_sem])).mono ?_
  rintro e w' ⟨rfl, hb⟩
  have HB := Lib.hid hb
  clear hb
  go_wp2
  go_outline
  go_ret
  exact ⟨ret_bool (firstBad_ge _ _ _), ((Below.refl _ _).alloc (Nat.le_refl _) _).trans (HB.out.mono (by simp))⟩
end Go.Proofs.Ytfiacjdkdjkiiaa
