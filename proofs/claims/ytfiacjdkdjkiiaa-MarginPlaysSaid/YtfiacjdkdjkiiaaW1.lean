/- Walks over small functions of the reference: In, Same, Sum, Value. -/
import Derived.Test.YtfiacjdkdjkiiaaProg
import Derived.Test.YtfiacjdkdjkiiaaBase
namespace Go.Proofs.Ytfiacjdkdjkiiaa
open Go.RowKit
set_option linter.unusedVariables false

theorem ret_int {k : IntKind} {a b : Int} (h : a = b) : Ending.returned (.int k a) = .returned (.int k b) := by rw [h]
theorem ret_bool {a b : Bool} (h : a = b) : Ending.returned (.bool a) = .returned (.bool b) := by rw [h]
theorem in_true (n lo hi : Int) (w : World) (h : inB n lo hi = true) :
    Calls Try.prog 32 #[.int .i64 n, .int .i64 lo, .int .i64 hi] w fun e w' => e = .returned (.bool true) ∧ w = w' := by
  have h' : lo ≤ n ∧ n ≤ hi := by simpa [inB] using h
  obtain ⟨h1, h2⟩ := h'
  clear h
  go_enter Try.func32, Try.ntmps32
  go_wp2
  go_ret
  exact ⟨rfl, rfl⟩
theorem in_false (n lo hi : Int) (w : World) (h : inB n lo hi = false) :
    Calls Try.prog 32 #[.int .i64 n, .int .i64 lo, .int .i64 hi] w fun e w' => e = .returned (.bool false) ∧ w = w' := by
  have h' : ¬ (lo ≤ n ∧ n ≤ hi) := by simpa [inB] using h
  clear h
  by_cases h1 : lo ≤ n
  · have h2 : ¬ n ≤ hi := fun x => h' ⟨h1, x⟩
    clear h'
    go_enter Try.func32, Try.ntmps32
    go_wp2
    go_ret
    exact ⟨rfl, rfl⟩
  · clear h'
    go_enter Try.func32, Try.ntmps32
    go_wp2
    go_ret
    exact ⟨rfl, rfl⟩
theorem in_any (n lo hi : Int) (w : World) :
    Calls Try.prog 32 #[.int .i64 n, .int .i64 lo, .int .i64 hi] w fun e w' => e = .returned (.bool (inB n lo hi)) ∧ w = w' := by
  cases h : inB n lo hi
  · exact in_false n lo hi w h
  · exact in_true n lo hi w h

theorem quiet_left {P : Program} {f : FuncId} {args : Array Value} {w : World} {n : Nat} {v : Value}
    (h : Calls P f args (w.drewN n) fun e w' => e = .returned v ∧ w.drewN n = w') : Calls P f args (w.drewN n) fun e w'' => e = .returned v ∧ ∃ m, w'' = w.drewN m :=
  h.mono fun _ _ ⟨he, hm⟩ => ⟨he, n, hm.symm⟩
theorem quiet_add_left {P : Program} {f : FuncId} {args : Array Value} {w : World} {a n : Nat} {v : Value}
    (h : Calls P f args (w.drewN (a + n)) fun e w' => e = .returned v ∧ w.drewN (a + n) = w') :
    Calls P f args (w.drewN (a + n)) fun e w'' => e = .returned v ∧ ∃ m, w'' = w.drewN (a + m) :=
  h.mono fun _ _ ⟨he, hm⟩ => ⟨he, n, hm.symm⟩

theorem take_succ_getD {α : Type} {l : List α} {k : Nat} (d : α) (h : k < l.length) : l.take (k + 1) = l.take k ++ [l.getD k d] := by
  rw [List.take_succ_eq_append_getElem h, List.getD_eq_getElem?_getD, List.getElem?_eq_getElem h]; rfl

set_option maxHeartbeats 400000 in
theorem same_any (a a' : Option Addr) (xs ys : List Int) (cap cap' : Nat) (w : World) (hl : xs.length ≤ 1000) (hl' : ys.length ≤ 1000)
    (hx : IntsAt w a xs) (hy : IntsAt w a' ys) :
    Calls Try.prog 26 #[.slice a xs.length cap, .slice a' ys.length cap'] w fun e w' => e = .returned (.bool (decide (xs = ys))) ∧ ∃ n, w' = w.drewN n := by
  by_cases hlen : xs.length = ys.length
  · have HX := Lib.hid hx; have HY := Lib.hid hy; have HL := Lib.hid hlen
    clear hx hy
    generalize hn : ys.length = n at *
    generalize hm : xs.length = m at *
    have hle : n ≤ m := by omega
    have hle' : m ≤ n := by omega
    have HM := Lib.hid hm; have HN := Lib.hid hn
    have e1 : ((m : Int) != (n : Int)) = false := by simp; omega
    clear hlen hn hm
    go_enter Try.func26, Try.ntmps26
    go_wp2
    go_loopw [5] (fun i wr => ∃ k q : Nat, k ≤ m ∧ i = .int .i64 k ∧ xs.take k = ys.take k ∧ wr = w.drewN q) (fun i _ => m - (intOf i).toNat)
    case atStart => exact ⟨0, 0, Nat.zero_le _, rfl, rfl, rfl⟩
    case round =>
      obtain ⟨k, q, hk, rfl, ht, rfl⟩ := hrel
      have HT := Lib.hid ht
      clear ht
      by_cases hlt : k < m
      · have hkx : k < xs.length := by have := HM.out; omega
        have hky : k < ys.length := by have := HN.out; omega
        obtain ⟨b, off, rfl, c1⟩ := HX.out k hkx
        obtain ⟨b', off', rfl, c2⟩ := HY.out k hky
        have hlt2 : k < n := by omega
        by_cases hne : xs.getD k 0 = ys.getD k 0
        · have HE : Hid (xs.take (k+1) = ys.take (k+1)) := by
            show xs.take (k+1) = ys.take (k+1)
            rw [take_succ_getD 0 hkx, take_succ_getD 0 hky, HT.out, hne]
          have e2 : (xs.getD k 0 != ys.getD k 0) = false := by simp only [hne, bne_self_eq_false]
          clear hne hkx hky
          generalize xs.getD k 0 = x at *
          generalize ys.getD k 0 = y at *
          go_wp2
          go_quiet (fail)
          go_wp2
          go_roundw
          case rel => exact ⟨k + 1, _, by omega, by go_num, HE.out, rfl⟩
          case measure => simp [intOf]; omega
        · have HF : Hid (decide (xs = ys) = false) := by
            show decide (xs = ys) = false
            simp only [decide_eq_false_iff_not]
            intro e
            exact hne (by rw [e])
          have e2 : (xs.getD k 0 != ys.getD k 0) = true := by simpa [bne_iff_ne] using hne
          clear hne hkx hky
          generalize xs.getD k 0 = x at *
          generalize ys.getD k 0 = y at *
          go_wp2
          go_quiet (fail)
          go_wp2
          go_ret
          exact ⟨ret_bool HF.out.symm, _, World.drewN_drewN _ _ _⟩
      · have HE : Hid (decide (xs = ys) = true) := by
          show decide (xs = ys) = true
          simp only [decide_eq_true_eq]
          have := HT.out
          have hm := HM.out
          have hn := HN.out
          rwa [List.take_of_length_le (by omega), List.take_of_length_le (by omega)] at this
        go_wp2
        go_ret
        exact ⟨ret_bool HE.out.symm, _, rfl⟩
  · have e1 : ((xs.length : Int) != (ys.length : Int)) = true := by simp; omega
    have HF : Hid (decide (xs = ys) = false) := by
      show decide (xs = ys) = false
      simp only [decide_eq_false_iff_not]
      intro e
      exact hlen (by rw [e])
    clear hx hy hlen
    generalize ys.length = n at *
    generalize xs.length = m at *
    go_enter Try.func26, Try.ntmps26
    go_wp2
    go_ret
    exact ⟨ret_bool HF.out.symm, 0, rfl⟩

def sumI : List Int → Int
  | [] => 0
  | x :: l => x + sumI l
theorem sumI_append (l m : List Int) : sumI (l ++ m) = sumI l + sumI m := by
  induction l with
  | nil => simp [sumI]
  | cons x l ih => simp [sumI, ih]; omega
theorem sumI_bd (l : List Int) (B : Int) (h : ∀ x ∈ l, -B ≤ x ∧ x ≤ B) : -(B * l.length) ≤ sumI l ∧ sumI l ≤ B * l.length := by
  induction l with
  | nil => simp [sumI]
  | cons x l ih =>
    have h1 := h x (by simp)
    have h2 := ih (fun y hy => h y (by simp [hy]))
    simp only [sumI, List.length_cons, Int.natCast_add, Int.cast_ofNat_Int]
    rw [Int.mul_add]; omega
theorem getD_mem {α : Type} {l : List α} {k : Nat} {d : α} (h : k < l.length) : l.getD k d ∈ l := by
  rw [List.getD_eq_getElem?_getD, List.getElem?_eq_getElem h]
  exact List.getElem_mem h

set_option maxHeartbeats 400000 in
theorem sum_any (a : Option Addr) (xs : List Int) (cap : Nat) (w : World) (hl : xs.length ≤ 1000) (hb : ∀ x ∈ xs, -1000000000000 ≤ x ∧ x ≤ 1000000000000) (hx : IntsAt w a xs) :
    Calls Try.prog 44 #[.slice a xs.length cap] w fun e w' => e = .returned (.int .i64 (sumI xs)) ∧ w = w' := by
  have HX := Lib.hid hx; have HB := Lib.hid hb
  clear hx hb
  generalize hm : xs.length = m at *
  have HM := Lib.hid hm
  clear hm
  go_enter Try.func44, Try.ntmps44
  go_wp2
  go_loop [3, 4] (fun t i => ∃ k : Nat, k ≤ m ∧ i = .int .i64 k ∧ t = .int .i64 (sumI (xs.take k))) (fun _ i => m - (intOf i).toNat)
  case atStart => exact ⟨0, Nat.zero_le _, rfl, rfl⟩
  case round =>
    obtain ⟨k, hk, rfl, rfl⟩ := hrel
    have hs := sumI_bd (xs.take k) 1000000000000 (fun x hx => HB.out x (List.mem_of_mem_take hx))
    have hlk : (xs.take k).length ≤ k := by simp; omega
    have hbd : -1000000000000000 ≤ sumI (xs.take k) ∧ sumI (xs.take k) ≤ 1000000000000000 := by omega
    clear hs hlk
    by_cases hlt : k < m
    · have hkx : k < xs.length := by have := HM.out; omega
      obtain ⟨b, off, rfl, c1⟩ := HX.out k hkx
      have hx1 := HB.out _ (getD_mem (d := 0) hkx)
      have HE : Hid (sumI (xs.take (k+1)) = sumI (xs.take k) + xs.getD k 0) := by
        show sumI (xs.take (k+1)) = sumI (xs.take k) + xs.getD k 0
        rw [take_succ_getD 0 hkx, sumI_append]; simp [sumI]
      clear hkx
      generalize xs.getD k 0 = x at *
      generalize sumI (xs.take k) = s at *
      go_wp2
      go_round
      case rel => exact ⟨k + 1, by omega, by go_num, by rw [HE.out]⟩
      case measure => simp [intOf]; omega
    · have HE : Hid (sumI (xs.take k) = sumI xs) := by
        show sumI (xs.take k) = sumI xs
        have := HM.out
        rw [List.take_of_length_le (by omega)]
      go_wp2
      go_ret
      exact ⟨ret_int HE.out, rfl⟩
end Go.Proofs.Ytfiacjdkdjkiiaa
