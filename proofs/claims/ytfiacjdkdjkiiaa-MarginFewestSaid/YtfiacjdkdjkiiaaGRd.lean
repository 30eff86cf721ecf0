/- Joined texts: Wt, Rp, Rd. -/
import Derived.Test.YtfiacjdkdjkiiaaGWa
import Derived.Test.YtfiacjdkdjkiiaaGCo
section
namespace Go.Proofs.Ytfiacjdkdjkiiaa
open Go.RowKit
set_option linter.unusedVariables false

def thinB (b : BankD) (t : TruthD) : Bool := decide (b.days.length ≤ 7) && decide (b.loans.length ≤ 7) && decide (t.prices.length ≤ 7) && decide (t.rates.length ≤ 7) &&
  b.days.all (fun d => decide (d.prices.length ≤ 7)) && b.loans.all (fun d => decide (d.shares.length ≤ 7)) && t.prices.all (fun d => decide (d.length ≤ 7))
theorem le_of_not_all {α : Type} {d : α} (l : List α) (f : α → Nat) (k : Nat) (hk : k < l.length) (h : 7 < f (l.getD k d)) : l.all (fun x => decide (f x ≤ 7)) = false :=
  all_false_getD (d := d) k hk (by simp only [decide_eq_false_iff_not]; omega)

set_option maxRecDepth 100000 in
set_option maxHeartbeats 1000000 in
theorem thin_any (da la pa ra : Option Addr) (dc lc pc rc : Nat) (b : BankD) (t : TruthD) (w : World) (hB : BankAt w da la b) (hT : TruthAt w pa ra t)
    (hd1 : b.days.length ≤ 9223372036854775807) (hd2 : b.loans.length ≤ 9223372036854775807) (hd3 : t.prices.length ≤ 9223372036854775807) (hd4 : t.rates.length ≤ 9223372036854775807) :
    Calls Try.prog 17 #[.agg #[.int .i64 b.stocks, .slice da b.days.length dc, .slice la b.loans.length lc], .agg #[.slice pa t.prices.length pc, .slice ra t.rates.length rc]] w
      fun e w' => e = .returned (.bool (thinB b t)) ∧ Below w.heap.size w w' := by
  have hbox := two_boxes (w := w) (o1 := .cells #[.int .i64 b.stocks, .slice da b.days.length dc, .slice la b.loans.length lc] 25) (o2 := .cells #[.slice pa t.prices.length pc, .slice ra t.rates.length rc] 29)
  have HB := Lib.hid hbox
  have HBK := Lib.hid (hB.below hbox); have HTR := Lib.hid (hT.below hbox)
  clear hB hT hbox
  by_cases h1 : b.days.length ≤ 7
  case neg =>
    have HF : Hid (thinB b t = false) := by show thinB b t = false; simp [thinB, h1]
    generalize b.days.length = n1 at *
    go_enter Try.func17, Try.ntmps17
    go_wp2
    go_ret
    exact ⟨ret_bool HF.out.symm, HB.out⟩
  by_cases h2 : b.loans.length ≤ 7
  case neg =>
    have HF : Hid (thinB b t = false) := by show thinB b t = false; simp [thinB, h2]
    generalize b.days.length = n1 at *
    generalize b.loans.length = n2 at *
    go_enter Try.func17, Try.ntmps17
    go_wp2
    go_ret
    exact ⟨ret_bool HF.out.symm, HB.out⟩
  by_cases h3 : t.prices.length ≤ 7
  case neg =>
    have HF : Hid (thinB b t = false) := by show thinB b t = false; simp [thinB, h3]
    generalize b.days.length = n1 at *
    generalize b.loans.length = n2 at *
    generalize t.prices.length = n3 at *
    go_enter Try.func17, Try.ntmps17
    go_wp2
    go_ret
    exact ⟨ret_bool HF.out.symm, HB.out⟩
  by_cases h4 : t.rates.length ≤ 7
  case neg =>
    have HF : Hid (thinB b t = false) := by show thinB b t = false; simp [thinB, h4]
    generalize b.days.length = n1 at *
    generalize b.loans.length = n2 at *
    generalize t.prices.length = n3 at *
    generalize t.rates.length = n4 at *
    go_enter Try.func17, Try.ntmps17
    go_wp2
    go_ret
    exact ⟨ret_bool HF.out.symm, HB.out⟩
  have H1 : Hid (b.days.length ≤ 7 ∧ b.loans.length ≤ 7 ∧ t.prices.length ≤ 7 ∧ t.rates.length ≤ 7) := ⟨h1, h2, h3, h4⟩
  generalize e1 : b.days.length = n1 at *
  generalize e2 : b.loans.length = n2 at *
  generalize e3 : t.prices.length = n3 at *
  generalize e4 : t.rates.length = n4 at *
  have E1 := Lib.hid e1; have E2 := Lib.hid e2; have E3 := Lib.hid e3; have E4 := Lib.hid e4
  clear e1 e2 e3 e4
  go_enter Try.func17, Try.ntmps17
  go_wp2
  go_loop [5] (fun i => ∃ k : Nat, k ≤ n1 ∧ i = .int .i64 k ∧ (∀ j, j < k → (fun (d : DayD) => decide (d.prices.length ≤ 7)) (b.days.getD j default) = true)) (fun i => n1 - (intOf i).toNat)
  case atStart => exact ⟨0, Nat.zero_le _, rfl, fun _ h => absurd h (Nat.not_lt_zero _)⟩
  case round =>
    obtain ⟨k, hk, rfl, hall⟩ := hrel
    have HA := Lib.hid hall
    clear hall
    by_cases hlt : k < n1
    · have hkd : k < b.days.length := by have := E1.out; omega
      obtain ⟨bb, off, qa, qc, rfl, c1, c2, c3, hp⟩ := HBK.out.1 k hkd
      clear hp
      by_cases g : (b.days.getD k default).prices.length ≤ 7
      · have HA' : Hid (∀ j, j < k + 1 → (fun (d : DayD) => decide (d.prices.length ≤ 7)) (b.days.getD j default) = true) := fun j hj => by
          by_cases hjk : j < k
          · exact HA.out j hjk
          · have : j = k := by omega
            rw [this]; simpa using g
        clear hkd
        generalize (b.days.getD k default).prices.length = z at *
        go_wp2
        go_round
        case rel => exact ⟨k + 1, by omega, by go_num, HA'.out⟩
        case measure => simp [intOf]; omega
      · have HF : Hid (thinB b t = false) := by
          show thinB b t = false
          have := le_of_not_all (d := default) b.days (fun d => d.prices.length) k hkd (by omega)
          simp only [thinB, this, Bool.and_false, Bool.false_and]
        clear hkd
        generalize (b.days.getD k default).prices.length = z at *
        go_wp2
        go_ret
        exact ⟨ret_bool HF.out.symm, HB.out⟩
    · have HD : Hid (b.days.all (fun d => decide (d.prices.length ≤ 7)) = true) := (all_getD (d := default)).2 (fun j hj => HA.out j (by have := E1.out; omega))
      clear HA
      go_wp2
      clear hlt hk
      go_loop [6] (fun i => ∃ k : Nat, k ≤ n2 ∧ i = .int .i64 k ∧ (∀ j, j < k → (fun (d : LoanD) => decide (d.shares.length ≤ 7)) (b.loans.getD j default) = true)) (fun i => n2 - (intOf i).toNat)
      case atStart => exact ⟨0, Nat.zero_le _, rfl, fun _ h => absurd h (Nat.not_lt_zero _)⟩
      case round =>
        obtain ⟨k, hk, rfl, hall⟩ := hrel
        have HA := Lib.hid hall
        clear hall
        by_cases hlt : k < n2
        · have hkd : k < b.loans.length := by have := E2.out; omega
          obtain ⟨bb, off, qa, qc, rfl, c1, c2, c3, hp⟩ := HBK.out.2 k hkd
          clear hp
          by_cases g : (b.loans.getD k default).shares.length ≤ 7
          · have HA' : Hid (∀ j, j < k + 1 → (fun (d : LoanD) => decide (d.shares.length ≤ 7)) (b.loans.getD j default) = true) := fun j hj => by
              by_cases hjk : j < k
              · exact HA.out j hjk
              · have : j = k := by omega
                rw [this]; simpa using g
            clear hkd
            generalize (b.loans.getD k default).shares.length = z at *
            go_wp2
            go_round
            case rel => exact ⟨k + 1, by omega, by go_num, HA'.out⟩
            case measure => simp [intOf]; omega
          · have HF : Hid (thinB b t = false) := by
              show thinB b t = false
              have := le_of_not_all (d := default) b.loans (fun d => d.shares.length) k hkd (by omega)
              simp only [thinB, this, Bool.and_false, Bool.false_and]
            clear hkd
            generalize (b.loans.getD k default).shares.length = z at *
            go_wp2
            go_ret
            exact ⟨ret_bool HF.out.symm, HB.out⟩
        · have HL : Hid (b.loans.all (fun d => decide (d.shares.length ≤ 7)) = true) := (all_getD (d := default)).2 (fun j hj => HA.out j (by have := E2.out; omega))
          clear HA
          go_wp2
          clear hlt hk
          go_loop [7] (fun i => ∃ k : Nat, k ≤ n3 ∧ i = .int .i64 k ∧ (∀ j, j < k → (fun (d : List Int) => decide (d.length ≤ 7)) (t.prices.getD j []) = true)) (fun i => n3 - (intOf i).toNat)
          case atStart => exact ⟨0, Nat.zero_le _, rfl, fun _ h => absurd h (Nat.not_lt_zero _)⟩
          case round =>
            obtain ⟨k, hk, rfl, hall⟩ := hrel
            have HA := Lib.hid hall
            clear hall
            by_cases hlt : k < n3
            · have hkd : k < t.prices.length := by have := E3.out; omega
              obtain ⟨bb, off, qa, qc, rfl, c1, hp⟩ := HTR.out.1 k hkd
              clear hp
              by_cases g : (t.prices.getD k []).length ≤ 7
              · have HA' : Hid (∀ j, j < k + 1 → (fun (d : List Int) => decide (d.length ≤ 7)) (t.prices.getD j []) = true) := fun j hj => by
                  by_cases hjk : j < k
                  · exact HA.out j hjk
                  · have : j = k := by omega
                    rw [this]; simpa using g
                clear hkd
                generalize (t.prices.getD k []).length = z at *
                go_wp2
                go_round
                case rel => exact ⟨k + 1, by omega, by go_num, HA'.out⟩
                case measure => simp [intOf]; omega
              · have HF : Hid (thinB b t = false) := by
                  show thinB b t = false
                  have := le_of_not_all (d := []) t.prices (fun d => d.length) k hkd (by omega)
                  simp only [thinB, this, Bool.and_false]
                clear hkd
                generalize (t.prices.getD k []).length = z at *
                go_wp2
                go_ret
                exact ⟨ret_bool HF.out.symm, HB.out⟩
            · have HP : Hid (t.prices.all (fun d => decide (d.length ≤ 7)) = true) := (all_getD (d := [])).2 (fun j hj => HA.out j (by have := E3.out; omega))
              have HF : Hid (thinB b t = true) := by
                show thinB b t = true
                have := E1.out; have := E2.out; have := E3.out; have := E4.out; have := H1.out
                simp only [thinB, HD.out, HL.out, HP.out, Bool.and_true, Bool.and_eq_true, decide_eq_true_eq]
                omega
              clear HA
              go_wp2
              go_ret
              exact ⟨ret_bool HF.out.symm, HB.out⟩
end Go.Proofs.Ytfiacjdkdjkiiaa
end
section
namespace Go.Proofs.Ytfiacjdkdjkiiaa
open Go Go.RowKit Go.Tl
set_option linter.unusedVariables false
theorem thin0_p (b : BankD) (hd1 : b.days.length ≤ 9223372036854775807) (hd2 : b.loans.length ≤ 9223372036854775807) : PCall Try.prog 17 [bankA false b, .ag [noneA, noneA]] (fun r => r = boolA (thinB b ⟨[], []⟩)) := pcall_below fun w S vs hvs => by
  obtain ⟨v, us, rfl, k1, hvs⟩ := rels1 hvs
  obtain ⟨v2, us, rfl, k2, hvs⟩ := rels1 hvs
  obtain rfl := rels0 hvs
  obtain ⟨da, dc, la, lc, rfl, _, hB⟩ := bank_at k1
  obtain ⟨xs, rfl, hx⟩ := ag_inv k2
  obtain ⟨v1, us, rfl, h1, hx⟩ := rels1 hx
  obtain ⟨v2, us, rfl, h2, hx⟩ := rels1 hx
  obtain rfl := rels0 hx
  rw [h1.lit_inv, h2.lit_inv]
  exact (thin_any da la none none dc lc 0 0 b ⟨[], []⟩ w hB ⟨fun k hk => absurd hk (by simp), fun k hk => absurd hk (by simp)⟩ hd1 hd2 (by simp) (by simp)).mono fun e w' ⟨e1, hb⟩ => ⟨_, _, e1, rfl, hb, .v _⟩
theorem sum_p (cp : Bool) (xs : List Int) (hl : xs.length ≤ 1000) (hb : ∀ x ∈ xs, -1000000000000 ≤ x ∧ x ≤ 1000000000000) : PCall Try.prog 44 [.t (intsT cp xs)] (fun r => r = intA (sumI xs)) := pcall_below fun w S vs hvs => by
  obtain ⟨v, us, rfl, k1, hvs⟩ := rels1 hvs
  obtain rfl := rels0 hvs
  obtain ⟨a, c, rfl, _, hx⟩ := ints_at (t_inv k1)
  refine (sum_any a xs c w hl hb hx).mono fun e w' ⟨e1, hb⟩ => ⟨_, _, e1, rfl, ?_, .v _⟩
  subst hb
  exact Below.refl _ _
/-- whether a bank is valid, and thin -/
def readyB (b : BankD) : Bool := thinB b ⟨[], []⟩ && decide (faultN b = 0)
theorem thin_short0 {b : BankD} {t : TruthD} (h : thinB b t = true) : Short b ∧ b.days.length ≤ 7 ∧ b.loans.length ≤ 7 := by
  simp only [thinB, Bool.and_eq_true, decide_eq_true_eq] at h
  obtain ⟨⟨⟨⟨⟨⟨h1, h2⟩, h3⟩, h4⟩, h5⟩, h6⟩, h7⟩ := h
  have g5 := (all_getD (d := default)).1 h5
  have g6 := (all_getD (d := default)).1 h6
  simp only [decide_eq_true_eq] at g5 g6
  exact ⟨⟨fun k hk => by have := g5 k hk; omega, fun k hk => by have := g6 k hk; omega, by omega, by omega⟩, h1, h2⟩
theorem ready_v {b : BankD} (h : readyB b = true) : Valid b ∧ Short b ∧ faultN b = 0 := by
  simp only [readyB, Bool.and_eq_true, decide_eq_true_eq] at h
  exact ⟨valid_of h.2, (thin_short0 h.1).1, h.2⟩
theorem days_le {cp : Bool} (xs : List DayD) : TrLe (daysT cp xs) (daysT false xs) := .sl (fun h => by cases h) (fun k hk => ⟨rfl, fun j x x' h1 h2 => by rw [h1] at h2; cases h2; exact .refl _⟩)
theorem bankA_le {cp : Bool} (b : BankD) : AVLe (bankA cp b) (bankA false b) := .ag (.cons (.refl _) (.cons (.t (days_le _)) (.cons (.refl _) .nil)))
end Go.Proofs.Ytfiacjdkdjkiiaa
end
section
namespace Go.Proofs.Ytfiacjdkdjkiiaa
open Go Go.RowKit Go.Tl
set_option linter.unusedVariables false
set_option linter.unusedSimpArgs false
set_option maxHeartbeats 2000000
attribute [local irreducible] AWP AWL AOp PV LV AWT AWE
theorem thin0_v {b : BankD} (hd1 : b.days.length ≤ 9223372036854775807) (hd2 : b.loans.length ≤ 9223372036854775807) {r : Bool} (h : thinB b ⟨[], []⟩ = r) : PCall Try.prog 17 [bankA false b, .ag [noneA, noneA]] (fun x => x = boolA r) := by
  subst h; exact thin0_p b hd1 hd2
theorem ready_p (b : BankD) (hd1 : b.days.length ≤ 9223372036854775807) (hd2 : b.loans.length ≤ 9223372036854775807) : PCall Try.prog 39 [bankA false b] (fun r => r = boolA (readyB b)) := by
  refine acall_of_awp T0 Try.func39 rfl rfl rfl ?_
  repeat (first | refine awp_seq ?_ | refine awp_region_lit rfl ?_)
  refine awl_hw (by first | exact wt_none rfl | exact wt_some' rfl rfl rfl rfl (by first | rfl | assumption | exact dT (by omega) | exact dF (by omega))) (st_box rfl rfl rfl (by simp only [cellsA]; rfl) rfl rfl ?_)
  intro g1
  repeat (first | refine awp_seq ?_ | refine awp_region_lit rfl ?_ | ((first | (show AWL _ _ _ (⟨_, .assign _, _, _, _, _⟩ :: _) _ _ _; refine awl_pw ?w (pv_assign rfl rfl) rfl rfl ?_) | (show AWL _ _ _ (⟨_, .load _ _, _, _, _, _⟩ :: _) _ _ _; refine awl_lw ?w (lv_cla T0 rfl rfl rfl (by solve | repeat' constructor) rfl) rfl rfl rfl ?_) | (show AWL _ _ _ (⟨_, .build _ _, _, _, _, _⟩ :: _) _ _ _; refine awl_pw ?w (pv_build T0 rfl rfl rfl (by simp only [Value.cells, List.toList_toArray, List.map_cons, List.map_nil]; rfl) (by first | ((repeat' (first | exact BParts.nil | apply BParts.cons | rfl)); all_goals fail) | fail) (by first | ((repeat' (first | exact FillA.nil | exact Sp.done | apply FillA.cons | apply Sp.put | apply Sp.skip | (simp only [cellsA]; rfl) | rfl)); all_goals fail) | fail)) rfl rfl ?_)); case w => first | exact wt_none rfl | exact wt_some' rfl rfl rfl rfl (by first | rfl | assumption | exact dT (by omega) | exact dF (by omega))) | refine awl_nil ?_)
  cases ht : thinB b ⟨[], []⟩
  · have e : readyB b = false := by rw [readyB, ht]; rfl
    refine awl_hw (by first | exact wt_none rfl | exact wt_some' rfl rfl rfl rfl (by first | rfl | assumption | exact dT (by omega) | exact dF (by omega))) (st_call T0 (thin0_v hd1 hd2 ht) rfl rfl rfl rfl (by first | exact callee_lit | exact callee_v | exact callee_fn) (by solve | repeat' constructor) rfl rfl ?_)
    rintro _ rfl
    repeat (first | refine awp_ret ?_ | ((first | (show AWL _ _ _ (⟨_, .move _, _, _, _, _⟩ :: _) _ _ _; refine awl_pw ?w (pv_move rfl rfl) rfl rfl ?_) | (show AWL _ _ _ (⟨_, .assign _, _, _, _, _⟩ :: _) _ _ _; refine awl_pw ?w (pv_assign rfl rfl) rfl rfl ?_) | (show AWL _ _ _ (⟨_, .load _ _, _, _, _, _⟩ :: _) _ _ _; refine awl_lw ?w (lv_cla T0 rfl rfl rfl (by solve | repeat' constructor) rfl) rfl rfl rfl ?_) | (show AWL _ _ _ (⟨_, .pick _ _ _, _, _, _, _⟩ :: _) _ _ _; refine awl_pw ?w (pv_pick_f rfl rfl (by first | rfl | assumption | exact dT (by omega) | exact dF (by omega)) rfl) rfl rfl ?_)); case w => first | exact wt_none rfl | exact wt_some' rfl rfl rfl rfl (by first | rfl | assumption | exact dT (by omega) | exact dF (by omega))) | refine awl_sk (wf_some rfl rfl rfl rfl (by first | rfl | assumption | exact dT (by omega) | exact dF (by omega))) rfl rfl ?_ | refine awl_nil ?_)
    exact body_p (.cons rfl .nil) (by rw [e]; rfl)
  have hs := thin_short0 ht
  refine awl_hw (by first | exact wt_none rfl | exact wt_some' rfl rfl rfl rfl (by first | rfl | assumption | exact dT (by omega) | exact dF (by omega))) (st_call T0 (thin0_v hd1 hd2 ht) rfl rfl rfl rfl (by first | exact callee_lit | exact callee_v | exact callee_fn) (by solve | repeat' constructor) rfl rfl ?_)
  rintro _ rfl
  repeat (first | ((first | (show AWL _ _ _ (⟨_, .move _, _, _, _, _⟩ :: _) _ _ _; refine awl_pw ?w (pv_move rfl rfl) rfl rfl ?_) | (show AWL _ _ _ (⟨_, .load _ _, _, _, _, _⟩ :: _) _ _ _; refine awl_lw ?w (lv_cla T0 rfl rfl rfl (by solve | repeat' constructor) rfl) rfl rfl rfl ?_)); case w => first | exact wt_none rfl | exact wt_some' rfl rfl rfl rfl (by first | rfl | assumption | exact dT (by omega) | exact dF (by omega))))
  refine awl_hw (by first | exact wt_none rfl | exact wt_some' rfl rfl rfl rfl (by first | rfl | assumption | exact dT (by omega) | exact dF (by omega))) (st_call T0 (lawfault_p false b (by omega) (by omega)) rfl rfl rfl rfl (by first | exact callee_lit | exact callee_v | exact callee_fn) (by solve | repeat' constructor) rfl rfl ?_)
  rintro _ rfl
  have e : readyB b = decide (faultN b = 0) := by rw [readyB, ht]; rfl
  repeat (first | refine awp_ret ?_ | ((first | (show AWL _ _ _ (⟨_, .assign _, _, _, _, _⟩ :: _) _ _ _; refine awl_pw ?w (pv_assign rfl rfl) rfl rfl ?_) | (show AWL _ _ _ (⟨_, .binOp .eql _ _ _ _, _, _, _, _⟩ :: _) _ _ _; refine awl_pw ?w (pv_eql rfl rfl rfl) rfl rfl ?_) | (show AWL _ _ _ (⟨_, .pick _ _ _, _, _, _, _⟩ :: _) _ _ _; refine awl_pw ?w (pv_pick_t rfl rfl (by first | rfl | assumption | exact dT (by omega) | exact dF (by omega)) rfl) rfl rfl ?_)); case w => first | exact wt_none rfl | exact wt_some' rfl rfl rfl rfl (by first | rfl | assumption | exact dT (by omega) | exact dF (by omega))) | refine awl_nil ?_)
  exact body_p (.cons rfl .nil) (by rw [e]; rfl)
theorem ready_w {b : BankD} (hd1 : b.days.length ≤ 9223372036854775807) (hd2 : b.loans.length ≤ 9223372036854775807) {r : Bool} (h : readyB b = r) : PCall Try.prog 39 [bankA false b] (fun x => x = boolA r) := by
  subst h; exact ready_p b hd1 hd2
end Go.Proofs.Ytfiacjdkdjkiiaa
end
