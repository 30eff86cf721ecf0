/- The state of a loan on a day. -/
import Derived.Test.YtlpknbneilgjkaaMMe0
import Derived.Test.YtlpknbneilgjkaaMMd
import Derived.Test.YtlpknbneilgjkaaMGBs
import Derived.Test.YtlpknbneilgjkaaMGWb
import Derived.Test.YtlpknbneilgjkaaTt
import Derived.Test.YtlpknbneilgjkaaGOb
import Derived.Test.YtlpknbneilgjkaaGPa
import Derived.Test.YtlpknbneilgjkaaGTs
import Derived.Test.YtlpknbneilgjkaaGTy
namespace Go.Proofs.Ytlpknbneilgjkaa.M
open Go Go.RowKit Go.Tl
set_option linter.unusedVariables false
set_option maxRecDepth 100000
set_option linter.unusedSimpArgs false
set_option maxHeartbeats 2000000
def stA (s : St) : AV := .ag [intA s.before, intA s.value, intA s.call]
def KnownL (f : Nat → Nat → St) (l : List (List Int × AV)) : Prop := ∀ ks y, lookL l ks = some y → ∃ i n : Nat, ks = [(i : Int), (n : Int)] ∧ y = stA (f i n)
theorem KnownL.nil {f : Nat → Nat → St} : KnownL f [] := fun ks y h => by simp [lookL] at h
theorem look_upd (l : List (List Int × AV)) (ks ks' : List Int) (x : AV) : lookL (updL l ks x) ks' = if ks' = ks then some x else lookL l ks' := by
  induction l with
  | nil => simp [updL, lookL]
  | cons p r ih =>
    obtain ⟨k, y⟩ := p
    by_cases h1 : ks = k
    · subst h1
      simp only [updL, if_true, lookL]
      split <;> rfl
    · simp only [updL, if_neg h1, lookL, ih]
      by_cases h2 : ks' = k
      · have h3 : ¬ ks' = ks := fun e => h1 (by rw [← e, h2])
        simp [h2]
        intro e
        exact absurd (h2.trans e) h3
      · simp [h2]
theorem KnownL.upd {f : Nat → Nat → St} {l : List (List Int × AV)} (h : KnownL f l) (i n : Nat) : KnownL f (updL l [(i : Int), (n : Int)] (stA (f i n))) := fun ks y hk => by
  rw [look_upd] at hk
  split at hk
  · rename_i e
    cases hk
    exact ⟨i, n, e, rfl⟩
  · exact h ks y hk
noncomputable def M147 : MK Try.prog 216 2 where
  kt := 160
  vt := 157
  z := .agg #[.int .i64 0, .int .i64 0, .int .i64 0]
  zA := .ag [intA 0, intA 0, intA 0]
  fs := Try.prog.fieldsOf 160
  hm := Try.underlying216
  hk := by kernel_rfl
  hz := zero_st
  hzA := fun w S => .ag (vs := [_, _, _]) rfl (VRels.lits [_, _, _]).2
  chk := fun e ks w h => by
    match ks, h with
    | [a, b], _ => exact key_ok e a b w
  eq := fun xs ys w h1 h2 => by
    match xs, h1, ys, h2 with
    | [a, b], _, [c, d], _ =>
      have := eq_spot a b c d w
      show (Op.equal 160 (.agg #[.int .i64 a, .int .i64 b]) (.agg #[.int .i64 c, .int .i64 d])).run Try.prog w = _
      rw [this]
      by_cases e1 : a = c <;> by_cases e2 : b = d <;> simp [e1, e2]
end Go.Proofs.Ytlpknbneilgjkaa.M
