/- Contracts of before, as calls over trees: thin banks, truths of a bank, equal lists, values, the first examples. -/
import Derived.Test.YtfiacjdkdjkiiaaWn
import Derived.Test.YtfiacjdkdjkiiaaMe0
import Derived.Test.YtfiacjdkdjkiiaaGRd
namespace Go.Proofs.Ytfiacjdkdjkiiaa
open Go Go.RowKit Go.Tl
set_option linter.unusedVariables false
theorem truth_at {w : World} {S : Nat → Prop} {t : TruthD} {v : Value} (h : VRel w S (truthA t) v) : ∃ pa pc ra rc, v = .agg #[.slice pa t.prices.length pc, .slice ra t.rates.length rc] ∧ TruthAt w pa ra t := by
  obtain ⟨vs, rfl, hv⟩ := ag_inv h
  obtain ⟨v1, us, rfl, h1, hv⟩ := rels1 hv
  obtain ⟨v2, us, rfl, h2, hv⟩ := rels1 hv
  obtain rfl := rels0 hv
  obtain ⟨pa, pc, rfl, _, hp⟩ := rows_at (t_inv h1)
  obtain ⟨ra, rc, rfl, _, hr⟩ := ints_at (t_inv h2)
  exact ⟨pa, pc, ra, rc, rfl, hp, hr⟩
theorem same_p (cp cp' : Bool) (xs ys : List Int) (h1 : xs.length ≤ 1000) (h2 : ys.length ≤ 1000) : PCall Try.prog 26 [.t (intsT cp xs), .t (intsT cp' ys)] (fun r => r = boolA (decide (xs = ys))) := pcall_below fun w S vs hvs => by
  obtain ⟨v, us, rfl, k1, hvs⟩ := rels1 hvs
  obtain ⟨v2, us, rfl, k2, hvs⟩ := rels1 hvs
  obtain rfl := rels0 hvs
  obtain ⟨a, c, rfl, _, hx⟩ := ints_at (t_inv k1)
  obtain ⟨a', c', rfl, _, hy⟩ := ints_at (t_inv k2)
  refine (same_any a a' xs ys c c' w h1 h2 hx hy).mono fun e w' ⟨e1, n, hb⟩ => ⟨_, _, e1, rfl, ?_, .v _⟩
  subst hb
  exact below_drewN' (Below.refl _ _) n
theorem same_v {cp cp' : Bool} {xs ys : List Int} (h1 : xs.length ≤ 1000) (h2 : ys.length ≤ 1000) {r : Bool} (h : decide (xs = ys) = r) : PCall Try.prog 26 [.t (intsT cp xs), .t (intsT cp' ys)] (fun x => x = boolA r) := by
  subst h; exact same_p cp cp' xs ys h1 h2
theorem value_p (cp cp' : Bool) (xs ys : List Int) (hl : xs.length ≤ 1000) (hle : xs.length ≤ ys.length) (hm : ys.length ≤ 1000) (hbx : ∀ x ∈ xs, 0 ≤ x ∧ x ≤ 1000000) (hby : ∀ x ∈ ys, 0 ≤ x ∧ x ≤ 1000000) : PCall Try.prog 42 [.t (intsT cp xs), .t (intsT cp' ys)] (fun r => r = intA (dot xs ys)) := pcall_below fun w S vs hvs => by
  obtain ⟨v, us, rfl, k1, hvs⟩ := rels1 hvs
  obtain ⟨v2, us, rfl, k2, hvs⟩ := rels1 hvs
  obtain rfl := rels0 hvs
  obtain ⟨a, c, rfl, _, hx⟩ := ints_at (t_inv k1)
  obtain ⟨a', c', rfl, _, hy⟩ := ints_at (t_inv k2)
  refine (value_any a a' xs ys c c' w hl hle hm hbx hby hx hy).mono fun e w' ⟨e1, n, hb⟩ => ⟨_, _, e1, rfl, ?_, .v _⟩
  subst hb
  exact below_drewN' (Below.refl _ _) n
theorem thin_p (b : BankD) (t : TruthD) (hd1 : b.days.length ≤ 9223372036854775807) (hd2 : b.loans.length ≤ 9223372036854775807) (hd3 : t.prices.length ≤ 9223372036854775807) (hd4 : t.rates.length ≤ 9223372036854775807) : PCall Try.prog 17 [bankA false b, truthA t] (fun r => r = boolA (thinB b t)) := pcall_below fun w S vs hvs => by
  obtain ⟨v, us, rfl, k1, hvs⟩ := rels1 hvs
  obtain ⟨v2, us, rfl, k2, hvs⟩ := rels1 hvs
  obtain rfl := rels0 hvs
  obtain ⟨da, dc, la, lc, rfl, _, hB⟩ := bank_at k1
  obtain ⟨pa, pc, ra, rc, rfl, hT⟩ := truth_at k2
  exact (thin_any da la pa ra dc lc pc rc b t w hB hT hd1 hd2 hd3 hd4).mono fun e w' ⟨e1, hb⟩ => ⟨_, _, e1, rfl, hb, .v _⟩
theorem thin_v {b : BankD} {t : TruthD} (hd1 : b.days.length ≤ 9223372036854775807) (hd2 : b.loans.length ≤ 9223372036854775807) (hd3 : t.prices.length ≤ 9223372036854775807) (hd4 : t.rates.length ≤ 9223372036854775807) {r : Bool} (h : thinB b t = r) : PCall Try.prog 17 [bankA false b, truthA t] (fun x => x = boolA r) := by
  subst h; exact thin_p b t hd1 hd2 hd3 hd4
theorem istruth_p (cp : Bool) (b : BankD) (t : TruthD) (hv : Valid b) (hp : t.prices.length ≤ 1000) (hr : t.rates.length ≤ 1000) (hin : ∀ k, k < t.prices.length → (t.prices.getD k []).length ≤ 1000) : PCall Try.prog 24 [bankA cp b, truthA t] (fun r => r = boolA (truthB b t)) := pcall_below fun w S vs hvs => by
  obtain ⟨v, us, rfl, k1, hvs⟩ := rels1 hvs
  obtain ⟨v2, us, rfl, k2, hvs⟩ := rels1 hvs
  obtain rfl := rels0 hvs
  obtain ⟨da, dc, la, lc, rfl, _, hB⟩ := bank_at k1
  obtain ⟨pa, pc, ra, rc, rfl, hT⟩ := truth_at k2
  by_cases h : t.prices.length = b.days.length ∧ t.rates.length = b.days.length
  · exact (istruth_any b da la dc lc t pa ra pc rc w hv hB hT hp hr hin h.1 h.2).mono fun e w' ⟨e1, hb⟩ => ⟨_, _, e1, rfl, hb, .v _⟩
  · exact (istruth_len b da la dc lc t pa ra pc rc w hv hB hT hp hr hin h).mono fun e w' ⟨e1, hb⟩ => ⟨_, _, e1, rfl, hb, .v _⟩
theorem istruth_v {cp : Bool} {b : BankD} {t : TruthD} (hv : Valid b) (hp : t.prices.length ≤ 1000) (hr : t.rates.length ≤ 1000) (hin : ∀ k, k < t.prices.length → (t.prices.getD k []).length ≤ 1000) {r : Bool} (h : truthB b t = r) : PCall Try.prog 24 [bankA cp b, truthA t] (fun x => x = boolA r) := by
  subst h; exact istruth_p cp b t hv hp hr hin
theorem thin_short {b : BankD} {t : TruthD} (h : thinB b t = true) : Short b ∧ b.days.length ≤ 7 ∧ b.loans.length ≤ 7 ∧ t.prices.length ≤ 7 ∧ t.rates.length ≤ 7 ∧ ∀ k, k < t.prices.length → (t.prices.getD k []).length ≤ 7 := by
  simp only [thinB, Bool.and_eq_true, decide_eq_true_eq] at h
  obtain ⟨⟨⟨⟨⟨⟨h1, h2⟩, h3⟩, h4⟩, h5⟩, h6⟩, h7⟩ := h
  have g5 := (all_getD (d := default)).1 h5
  have g6 := (all_getD (d := default)).1 h6
  have g7 := (all_getD (d := [])).1 h7
  simp only [decide_eq_true_eq] at g5 g6 g7
  exact ⟨⟨fun k hk => by have := g5 k hk; omega, fun k hk => by have := g6 k hk; omega, by omega, by omega⟩, h1, h2, h3, h4, g7⟩
end Go.Proofs.Ytfiacjdkdjkiiaa
