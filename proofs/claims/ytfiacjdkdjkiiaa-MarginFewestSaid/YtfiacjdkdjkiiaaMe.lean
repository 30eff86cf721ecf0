/- The state of a loan on a day. -/
import Derived.Test.YtfiacjdkdjkiiaaMe0
import Derived.Test.YtfiacjdkdjkiiaaMd
import Derived.Test.YtfiacjdkdjkiiaaGBs
import Derived.Test.YtfiacjdkdjkiiaaGWb
namespace Go.Proofs.Ytfiacjdkdjkiiaa
open Go Go.RowKit Go.Tl
set_option linter.unusedVariables false
set_option linter.unusedSimpArgs false
set_option maxHeartbeats 2000000
def stA (s : St) : AV := .ag [intA s.before, intA s.value, intA s.call]
def KnownL (f : Nat → Nat → St) (l : List (List Int × AV)) : Prop := ∀ ks y, lookL l ks = some y → ∃ i n : Nat, ks = [(i : Int), (n : Int)] ∧ y = stA (f i n)
theorem KnownL.nil {f : Nat → Nat → St} : KnownL f [] := fun ks y h => by simp [lookL] at h
theorem look_upd (l : List (List Int × AV)) (ks ks' : List Int) (x : AV) : lookL (updL l ks x) ks' = if ks' = ks then some x else lookL l ks' := by
  induction l with
  | nil => simp [updL, lookL]
  | cons p r ih =>
    obtain ⟨k, y⟩ := p
    by_cases h1 : ks = k
    · subst h1
      simp only [updL, if_true, lookL]
      split <;> rfl
    · simp only [updL, if_neg h1, lookL, ih]
      by_cases h2 : ks' = k
      · have h3 : ¬ ks' = ks := fun e => h1 (by rw [← e, h2])
        simp [h2]
        intro e
        exact absurd (h2.trans e) h3
      · simp [h2]
theorem KnownL.upd {f : Nat → Nat → St} {l : List (List Int × AV)} (h : KnownL f l) (i n : Nat) : KnownL f (updL l [(i : Int), (n : Int)] (stA (f i n))) := fun ks y hk => by
  rw [look_upd] at hk
  split at hk
  · rename_i e
    cases hk
    exact ⟨i, n, e, rfl⟩
  · exact h ks y hk
noncomputable def M147 : MK Try.prog 147 2 where
  kt := 120
  vt := 117
  z := .agg #[.int .i64 0, .int .i64 0, .int .i64 0]
  zA := .ag [intA 0, intA 0, intA 0]
  fs := Try.prog.fieldsOf 120
  hm := Try.underlying147
  hk := by kernel_rfl
  hz := zero_st
  hzA := fun w S => .ag (vs := [_, _, _]) rfl (VRels.lits [_, _, _]).2
  chk := fun e ks w h => by
    match ks, h with
    | [a, b], _ => exact key_ok e a b w
  eq := fun xs ys w h1 h2 => by
    match xs, h1, ys, h2 with
    | [a, b], _, [c, d], _ =>
      have := eq_spot a b c d w
      show (Op.equal 120 (.agg #[.int .i64 a, .int .i64 b]) (.agg #[.int .i64 c, .int .i64 d])).run Try.prog w = _
      rw [this]
      by_cases e1 : a = c <;> by_cases e2 : b = d <;> simp [e1, e2]
theorem after_p (s : St) (h : -1000000000 ≤ s.before ∧ s.before ≤ 1000000000) (h' : -1000000000 ≤ s.call ∧ s.call ≤ 1000000000) : PCall Try.prog 57 [stA s] (fun r => r = intA s.after) := pcall_below fun w S vs hvs => by
  obtain ⟨v, us, rfl, h1, hvs⟩ := rels1 hvs
  obtain rfl := rels0 hvs
  have e2 : v = .agg #[.int .i64 s.before, .int .i64 s.value, .int .i64 s.call] := by
    obtain ⟨vs, rfl, hv⟩ := ag_inv h1
    obtain ⟨v1, us, rfl, k1, hv⟩ := rels1 hv
    obtain ⟨v2, us, rfl, k2, hv⟩ := rels1 hv
    obtain ⟨v3, us, rfl, k3, hv⟩ := rels1 hv
    obtain rfl := rels0 hv
    rw [k1.lit_inv, k2.lit_inv, k3.lit_inv]
  subst e2
  exact (after_any s.before s.value s.call w h h').mono fun e w' ⟨e1, hb⟩ => ⟨_, _, e1, rfl, hb, .v _⟩
theorem arr_inv {w : World} {S : Nat → Prop} {p : List Int} {v : Value} (h : VRel w S (.ag (arrRow p)) v) : v = .agg (arr4 p) := by
  obtain ⟨vs, rfl, hv⟩ := ag_inv h
  unfold arrRow at hv
  obtain ⟨v1, us, rfl, k1, hv⟩ := rels1 hv
  obtain ⟨v2, us, rfl, k2, hv⟩ := rels1 hv
  obtain ⟨v3, us, rfl, k3, hv⟩ := rels1 hv
  obtain ⟨v4, us, rfl, k4, hv⟩ := rels1 hv
  obtain rfl := rels0 hv
  rw [k1.lit_inv, k2.lit_inv, k3.lit_inv, k4.lit_inv]
  rfl
theorem pvalue_p (cp : Bool) (xs p : List Int) (hl : xs.length = p.length) (h4 : xs.length ≤ 4) (hx : ∀ x ∈ xs, 0 ≤ x ∧ x ≤ 1000000) (hp : ∀ x ∈ p, 0 ≤ x ∧ x ≤ 1000000) : PCall Try.prog 81 [.ag (arrRow p), .t (intsT cp xs)] (fun r => r = intA (dot xs p)) := pcall_below fun w S vs hvs => by
  obtain ⟨v, us, rfl, h1, hvs⟩ := rels1 hvs
  obtain ⟨v2, us, rfl, h2, hvs⟩ := rels1 hvs
  obtain rfl := rels0 hvs
  rw [arr_inv h1]
  obtain ⟨a, c, rfl, _, hi⟩ := ints_at (t_inv h2)
  have hpad : ∀ x ∈ pad4 p, 0 ≤ x ∧ x ≤ 1000000 := fun x hx => by
    have key : ∀ k, 0 ≤ p.getD k 0 ∧ p.getD k 0 ≤ 1000000 := fun k => by
      rcases Nat.lt_or_ge k p.length with h | h
      · exact hp _ (getD_mem h)
      · rw [List.getD_eq_getElem?_getD, List.getElem?_eq_none h]; decide
    simp only [pad4, List.mem_cons, List.not_mem_nil, or_false] at hx
    rcases hx with rfl | rfl | rfl | rfl <;> exact key _
  have := pvalue_any a xs p c w h4 hx hpad hi
  rw [dot_pad xs p hl (by omega)] at this
  exact this.mono fun e w' ⟨e1, hb⟩ => ⟨_, _, e1, rfl, hb, .v _⟩
end Go.Proofs.Ytfiacjdkdjkiiaa
