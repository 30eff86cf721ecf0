/- Walks over ref.Value, prices.value and other small functions. -/
import Derived.Test.YtfiacjdkdjkiiaaW3
import Derived.Test.YtfiacjdkdjkiiaaW2
import Derived.Test.YtfiacjdkdjkiiaaPlain
namespace Go.Proofs.Ytfiacjdkdjkiiaa
open Go.RowKit
set_option linter.unusedVariables false

theorem dot_succ (xs ps : List Int) (k : Nat) (h : k < xs.length) (h' : k < ps.length) : dot (xs.take (k + 1)) ps = dot (xs.take k) ps + xs.getD k 0 * ps.getD k 0 := by
  induction xs generalizing ps k with
  | nil => simp at h
  | cons x xs ih => cases ps with
    | nil => simp at h'
    | cons p ps => cases k with
      | zero => simp [dot]
      | succ k =>
        have := ih ps k (by simpa using h) (by simpa using h')
        simp only [List.take_succ_cons, dot, this, List.getD_cons_succ]; omega
theorem dot_bd (xs ps : List Int) (hx : ∀ x ∈ xs, 0 ≤ x ∧ x ≤ 1000000) (hp : ∀ x ∈ ps, 0 ≤ x ∧ x ≤ 1000000) : 0 ≤ dot xs ps ∧ dot xs ps ≤ 1000000000000 * xs.length := by
  induction xs generalizing ps with
  | nil => cases ps <;> simp [dot]
  | cons x xs ih =>
    cases ps with
    | nil => simp only [dot, List.length_cons]; omega
    | cons p ps =>
      have h1 := ih ps (fun y hy => hx y (by simp [hy])) (fun y hy => hp y (by simp [hy]))
      have hxx := hx x (by simp)
      have hpp := hp p (by simp)
      have h3 := Int.mul_nonneg hxx.1 hpp.1
      have h2 : x * p ≤ 1000000 * 1000000 := Int.le_trans (Int.mul_le_mul_of_nonneg_right hxx.2 hpp.1) (Int.mul_le_mul_of_nonneg_left hpp.2 (by omega))
      simp only [dot, List.length_cons]; omega
theorem mul_bd {x y : Int} (hx : 0 ≤ x ∧ x ≤ 1000000) (hy : 0 ≤ y ∧ y ≤ 1000000) : 0 ≤ x * y ∧ x * y ≤ 1000000000000 :=
  ⟨Int.mul_nonneg hx.1 hy.1, Int.le_trans (Int.mul_le_mul_of_nonneg_right hx.2 hy.1) (Int.mul_le_mul_of_nonneg_left hy.2 (by omega))⟩

set_option maxHeartbeats 400000 in
theorem value_any (a a' : Option Addr) (xs ys : List Int) (cap cap' : Nat) (w : World) (hl : xs.length ≤ 1000) (hle : xs.length ≤ ys.length) (hm : ys.length ≤ 1000)
    (hbx : ∀ x ∈ xs, 0 ≤ x ∧ x ≤ 1000000) (hby : ∀ x ∈ ys, 0 ≤ x ∧ x ≤ 1000000) (hx : IntsAt w a xs) (hy : IntsAt w a' ys) :
    Calls Try.prog 42 #[.slice a xs.length cap, .slice a' ys.length cap'] w fun e w' => e = .returned (.int .i64 (dot xs ys)) ∧ ∃ n, w' = w.drewN n := by
  have HX := Lib.hid hx; have HY := Lib.hid hy; have HBX := Lib.hid hbx; have HBY := Lib.hid hby
  clear hx hy hbx hby
  generalize hn : ys.length = n at *
  generalize hmm : xs.length = m at *
  have HM := Lib.hid hmm; have HN := Lib.hid hn
  clear hn hmm
  go_enter Try.func42, Try.ntmps42
  go_wp2
  go_loopw [5, 6] (fun t i wr => ∃ k q : Nat, k ≤ m ∧ i = .int .i64 k ∧ t = .int .i64 (dot (xs.take k) ys) ∧ wr = w.drewN q) (fun _ i _ => m - (intOf i).toNat)
  case atStart => exact ⟨0, 0, Nat.zero_le _, rfl, by cases ys <;> simp [dot], rfl⟩
  case round =>
    obtain ⟨k, q, hk, rfl, rfl, rfl⟩ := hrel
    have hs := dot_bd (xs.take k) ys (fun x hx => HBX.out x (List.mem_of_mem_take hx)) HBY.out
    have hlk : (xs.take k).length ≤ k := by simp; omega
    have hbd : 0 ≤ dot (xs.take k) ys ∧ dot (xs.take k) ys ≤ 1000000000000000 := by omega
    clear hs hlk
    by_cases hlt : k < m
    · have hkx : k < xs.length := by have := HM.out; omega
      have hky : k < ys.length := by have := HN.out; omega
      have hlt2 : k < n := by omega
      obtain ⟨b, off, rfl, c1⟩ := HX.out k hkx
      obtain ⟨b', off', rfl, c2⟩ := HY.out k hky
      have hpr := mul_bd (HBX.out _ (getD_mem (d := 0) hkx)) (HBY.out _ (getD_mem (d := 0) hky))
      have HE := Lib.hid (dot_succ xs ys k hkx hky)
      clear hkx hky
      generalize xs.getD k 0 = x at *
      generalize ys.getD k 0 = y at *
      generalize dot (xs.take k) ys = s at *
      go_wp2
      go_quiet (fail)
      go_wp2
      go_roundw
      case rel => exact ⟨k + 1, _, by omega, by go_num, by rw [HE.out], rfl⟩
      case measure => simp [intOf]; omega
    · have HE : Hid (dot (xs.take k) ys = dot xs ys) := by
        show dot (xs.take k) ys = dot xs ys
        have := HM.out
        rw [List.take_of_length_le (by omega)]
      go_wp2
      go_ret
      exact ⟨ret_int HE.out, _, rfl⟩

/-- four cells of an array of prices -/
def pad4 (p : List Int) : List Int := [p.getD 0 0, p.getD 1 0, p.getD 2 0, p.getD 3 0]
def arr4 (p : List Int) : Array Value := #[.int .i64 (p.getD 0 0), .int .i64 (p.getD 1 0), .int .i64 (p.getD 2 0), .int .i64 (p.getD 3 0)]
theorem dot_pad (xs p : List Int) (h : xs.length = p.length) (h4 : p.length ≤ 4) : dot xs (pad4 p) = dot xs p := by
  match xs, p, h, h4 with
  | [], [], _, _ => rfl
  | [a], [p], _, _ => rfl
  | [a, b], [p, q], _, _ => rfl
  | [a, b, c], [p, q, r], _, _ => rfl
  | [a, b, c, d], [p, q, r, s], _, _ => rfl
  | _ :: _ :: _ :: _ :: _ :: _, _ :: _ :: _ :: _ :: _ :: _, _, h4 => simp at h4
theorem arr4_cell (p : List Int) (w : World) (T : TypeId) (k : Nat) (h : k < 4) : (w.alloc (.cells (arr4 p) T)).cell? ⟨w.heap.size, k, none⟩ = some (.int .i64 (p.getD k 0)) := by
  match k, h with
  | 0, _ => simp [go_sem, arr4]
  | 1, _ => simp [go_sem, arr4]
  | 2, _ => simp [go_sem, arr4]
  | 3, _ => simp [go_sem, arr4]

set_option maxHeartbeats 400000 in
theorem pvalue_any (a : Option Addr) (xs p : List Int) (cap : Nat) (w : World) (hl : xs.length ≤ 4) 
    (hbx : ∀ x ∈ xs, 0 ≤ x ∧ x ≤ 1000000) (hby : ∀ x ∈ pad4 p, 0 ≤ x ∧ x ≤ 1000000) (hx : IntsAt w a xs) :
    Calls Try.prog 81 #[.agg (arr4 p), .slice a xs.length cap] w fun e w' => e = .returned (.int .i64 (dot xs (pad4 p))) ∧ Below w.heap.size w w' := by
  have hbox : Below w.heap.size w (w.alloc (.cells (arr4 p) 139)) := (Below.refl _ _).alloc (Nat.le_refl _) _
  have HX := Lib.hid (hx.below hbox); have HBX := Lib.hid hbx; have HBY := Lib.hid hby
  have HB := Lib.hid hbox
  have HC := Lib.hid (arr4_cell p w 139)
  clear hx hbx hby hbox
  generalize hmm : xs.length = m at *
  have HM := Lib.hid hmm
  clear hmm
  go_enter Try.func81, Try.ntmps81
  go_wp2
  go_loop [4, 5, 6, 9] (fun t _ _ i => ∃ k : Nat, k ≤ m ∧ i = .int .i64 k ∧ t = .int .i64 (dot (xs.take k) (pad4 p))) (fun _ _ _ i => m - (intOf i).toNat)
  case atStart => exact ⟨0, Nat.zero_le _, rfl, by simp [dot]⟩
  case round =>
    obtain ⟨k, hk, rfl, rfl⟩ := hrel
    have hs := dot_bd (xs.take k) (pad4 p) (fun x hx => HBX.out x (List.mem_of_mem_take hx)) HBY.out
    have hlk : (xs.take k).length ≤ k := by simp; omega
    have hbd : 0 ≤ dot (xs.take k) (pad4 p) ∧ dot (xs.take k) (pad4 p) ≤ 1000000000000000 := by omega
    clear hs hlk
    by_cases hlt : k < m
    · have hkx : k < xs.length := by have := HM.out; omega
      have hky : k < (pad4 p).length := by simp [pad4]; omega
      have hk4 : k < 4 := by omega
      have hk4' : (k : Int) < 4 := by omega
      have hk0 : (0 : Int) ≤ (k : Int) := by omega
      obtain ⟨b, off, rfl, c1⟩ := HX.out k hkx
      have c2 := HC.out k hk4
      have e2 : (pad4 p).getD k 0 = p.getD k 0 := by
        match k, hk4 with
        | 0, _ => rfl
        | 1, _ => rfl
        | 2, _ => rfl
        | 3, _ => rfl
      have hpr := mul_bd (HBX.out _ (getD_mem (d := 0) hkx)) (HBY.out _ (getD_mem (d := 0) hky))
      have HE := Lib.hid (dot_succ xs (pad4 p) k hkx hky)
      rw [e2] at HE hpr
      clear hkx hky e2
      generalize xs.getD k 0 = x at *
      generalize p.getD k 0 = y at *
      generalize dot (xs.take k) (pad4 p) = s at *
      go_wp2
      go_round
      case rel => exact ⟨k + 1, by omega, by go_num, by rw [HE.out]⟩
      case measure => simp [intOf]; omega
    · have HE : Hid (dot (xs.take k) (pad4 p) = dot xs (pad4 p)) := by
        show dot (xs.take k) (pad4 p) = dot xs (pad4 p)
        have := HM.out
        rw [List.take_of_length_le (by omega)]
      go_wp2
      go_ret
      exact ⟨ret_int HE.out, HB.out⟩

theorem after_any (x y z : Int) (w : World) (h : -1000000000 ≤ x ∧ x ≤ 1000000000) (h' : -1000000000 ≤ z ∧ z ≤ 1000000000) :
    Calls Try.prog 57 #[.agg #[.int .i64 x, .int .i64 y, .int .i64 z]] w fun e w' => e = .returned (.int .i64 (x - z)) ∧ Below w.heap.size w w' := by
  go_enter Try.func57, Try.ntmps57
  go_wp2
  go_ret
  exact ⟨rfl, (Below.refl _ _).alloc (Nat.le_refl _) _⟩
theorem low_any (x y : Int) (w : World) : Calls Try.prog 92 #[.agg #[.int .i64 x, .int .i64 y]] w fun e w' => e = .returned (.int .i64 x) ∧ Below w.heap.size w w' := by
  go_enter Try.func92, Try.ntmps92
  go_wp2
  go_ret
  exact ⟨rfl, (Below.refl _ _).alloc (Nat.le_refl _) _⟩
theorem high_any (x y : Int) (w : World) : Calls Try.prog 93 #[.agg #[.int .i64 x, .int .i64 y]] w fun e w' => e = .returned (.int .i64 y) ∧ Below w.heap.size w w' := by
  go_enter Try.func93, Try.ntmps93
  go_wp2
  go_ret
  exact ⟨rfl, (Below.refl _ _).alloc (Nat.le_refl _) _⟩

/-- whether proceeds restore a margin -/
def resB (debt value margin pro : Int) : Bool := decide (debt ≤ pro ∨ (debt - pro) * (100 + margin) ≤ 100 * (value - pro))
theorem prod_bd {x y : Int} (hx : -10000000 ≤ x ∧ x ≤ 10000000) (hy : 0 ≤ y ∧ y ≤ 1000) : -10000000000 ≤ x * y ∧ x * y ≤ 10000000000 := by
  have h1 := Int.mul_le_mul_of_nonneg_right hx.1 hy.1
  have h2 := Int.mul_le_mul_of_nonneg_right hx.2 hy.1
  omega
theorem restores_any (debt value call margin pro : Int) (w : World) (h1 : 0 ≤ debt ∧ debt ≤ 1000000) (h2 : 0 ≤ value ∧ value ≤ 1000000) (h3 : 0 ≤ pro ∧ pro ≤ 1000000) (h4 : 0 ≤ margin ∧ margin ≤ 100) :
    Calls Try.prog 80 #[.agg #[.int .i64 debt, .int .i64 value, .int .i64 call], .int .i64 margin, .int .i64 pro] w fun e w' => e = .returned (.bool (resB debt value margin pro)) ∧ Below w.heap.size w w' := by
  have hp := prod_bd (x := debt - pro) (y := 100 + margin) (by omega) (by omega)
  by_cases g : debt ≤ pro
  · have HF : Hid (resB debt value margin pro = true) := by show resB debt value margin pro = true; simp [resB, g]
    go_enter Try.func80, Try.ntmps80
    go_wp2
    go_ret
    exact ⟨ret_bool HF.out.symm, (Below.refl _ _).alloc (Nat.le_refl _) _⟩
  · by_cases g2 : (debt - pro) * (100 + margin) ≤ 100 * (value - pro)
    · have HF : Hid (resB debt value margin pro = true) := by show resB debt value margin pro = true; simp [resB, g2]
      go_enter Try.func80, Try.ntmps80
      go_wp2
      go_ret
      exact ⟨ret_bool HF.out.symm, (Below.refl _ _).alloc (Nat.le_refl _) _⟩
    · have HF : Hid (resB debt value margin pro = false) := by show resB debt value margin pro = false; simp [resB, g2]; omega
      go_enter Try.func80, Try.ntmps80
      go_wp2
      go_ret
      exact ⟨ret_bool HF.out.symm, (Below.refl _ _).alloc (Nat.le_refl _) _⟩
theorem Restores_any (debt value margin pro : Int) (w : World) (h1 : 0 ≤ debt ∧ debt ≤ 1000000) (h2 : 0 ≤ value ∧ value ≤ 1000000) (h3 : 0 ≤ pro ∧ pro ≤ 1000000) (h4 : 0 ≤ margin ∧ margin ≤ 100) :
    Calls Try.prog 51 #[.int .i64 debt, .int .i64 value, .int .i64 margin, .int .i64 pro] w fun e w' => e = .returned (.bool (resB debt value margin pro)) ∧ w = w' := by
  have hp := prod_bd (x := debt - pro) (y := 100 + margin) (by omega) (by omega)
  by_cases g : debt ≤ pro
  · have HF : Hid (resB debt value margin pro = true) := by show resB debt value margin pro = true; simp [resB, g]
    go_enter Try.func51, Try.ntmps51
    go_wp2
    go_ret
    exact ⟨ret_bool HF.out.symm, rfl⟩
  · by_cases g2 : (debt - pro) * (100 + margin) ≤ 100 * (value - pro)
    · have HF : Hid (resB debt value margin pro = true) := by show resB debt value margin pro = true; simp [resB, g2]
      go_enter Try.func51, Try.ntmps51
      go_wp2
      go_ret
      exact ⟨ret_bool HF.out.symm, rfl⟩
    · have HF : Hid (resB debt value margin pro = false) := by show resB debt value margin pro = false; simp [resB, g2]; omega
      go_enter Try.func51, Try.ntmps51
      go_wp2
      go_ret
      exact ⟨ret_bool HF.out.symm, rfl⟩

/-- a spot of a bank -/
def spotB (nl nd : Nat) (loan day : Int) : Bool := inB loan 0 ((nl : Int) - 1) && inB day 0 ((nd : Int) - 1)
theorem spot_any (st : Int) (da la : Option Addr) (dl dc ll lc : Nat) (loan day : Int) (w : World) (hd : dl ≤ 1000) (hl : ll ≤ 1000) :
    Calls Try.prog 64 #[.agg #[.int .i64 st, .slice da dl dc, .slice la ll lc], .agg #[.int .i64 loan, .int .i64 day]] w fun e w' => e = .returned (.bool (spotB ll dl loan day)) ∧ Below w.heap.size w w' := by
  cases g1 : inB loan 0 ((ll : Int) - 1)
  · have HF : Hid (spotB ll dl loan day = false) := by show spotB ll dl loan day = false; simp [spotB, g1]
    have G1 := Lib.hid g1
    clear g1
    go_enter Try.func64, Try.ntmps64
    go_wp2_with (go_at_call 69; refine (within_false _ _ _ _ G1.out).mono ?_; rintro e w' ⟨rfl, rfl⟩)
    go_ret
    exact ⟨ret_bool HF.out.symm, ((Below.refl _ _).alloc (Nat.le_refl _) _).alloc (by simp) _⟩
  · have HF : Hid (inB day 0 ((dl : Int) - 1) = spotB ll dl loan day) := by show inB day 0 ((dl : Int) - 1) = spotB ll dl loan day; simp [spotB, g1]
    have G1 := Lib.hid g1
    clear g1
    go_enter Try.func64, Try.ntmps64
    go_wp2_with fail
    refine (within_true _ _ _ _ G1.out).mono ?_
    rintro e w' ⟨rfl, rfl⟩
    go_wp2_with fail
    refine (within_any _ _ _ _).mono ?_
    rintro e w' ⟨rfl, rfl⟩
    go_wp2
    go_ret
    exact ⟨ret_bool HF.out, ((Below.refl _ _).alloc (Nat.le_refl _) _).alloc (by simp) _⟩

theorem lawfault_any (da la : Option Addr) (dc lc : Nat) (b : BankD) (w : World) (hD : DaysAt w da b.days) (hL : LoansAt w la b.loans) (hdl : b.days.length ≤ 1000) (hll : b.loans.length ≤ 1000) :
    Calls Try.prog 22 #[.agg #[.int .i64 b.stocks, .slice da b.days.length dc, .slice la b.loans.length lc]] w fun e w' => e = .returned (.int .i64 (faultN b)) ∧ Below w.heap.size w w' := by
  have hbox : Below w.heap.size w (w.alloc (.cells #[.int .i64 b.stocks, .slice da b.days.length dc, .slice la b.loans.length lc] 25)) := (Below.refl _ _).alloc (Nat.le_refl _) _
  have HD := Lib.hid (hD.below hbox); have HL := Lib.hid (hL.below hbox); have HB := Lib.hid hbox
  clear hD hL hbox
  go_enter Try.func22, Try.ntmps22
  go_wp2_with fail
  refine (fault_any _ _ _ _ _ _ HD.out HL.out hdl hll).mono ?_
  rintro e w' ⟨rfl, hb⟩
  have HB2 := Lib.hid hb
  clear hb
  go_wp2
  go_ret
  exact ⟨rfl, HB.out.trans (HB2.out.mono (by simp))⟩

theorem lawin_any (n x y : Int) (w : World) : Calls Try.prog 41 #[.int .i64 n, .agg #[.int .i64 x, .int .i64 y]] w fun e w' => e = .returned (.bool (inB n x y)) ∧ Below w.heap.size w w' := by
  by_cases g1 : x ≤ n
  · by_cases g2 : n ≤ y
    · have HF : Hid (inB n x y = true) := by show inB n x y = true; simp [inB, g1, g2]
      go_enter Try.func41, Try.ntmps41
      go_wp2
      go_ret
      exact ⟨ret_bool HF.out.symm, (Below.refl _ _).alloc (Nat.le_refl _) _⟩
    · have HF : Hid (inB n x y = false) := by show inB n x y = false; simp [inB]; omega
      go_enter Try.func41, Try.ntmps41
      go_wp2
      go_ret
      exact ⟨ret_bool HF.out.symm, (Below.refl _ _).alloc (Nat.le_refl _) _⟩
  · have HF : Hid (inB n x y = false) := by show inB n x y = false; simp [inB]; omega
    go_enter Try.func41, Try.ntmps41
    go_wp2
    go_ret
    exact ⟨ret_bool HF.out.symm, (Below.refl _ _).alloc (Nat.le_refl _) _⟩
end Go.Proofs.Ytfiacjdkdjkiiaa
