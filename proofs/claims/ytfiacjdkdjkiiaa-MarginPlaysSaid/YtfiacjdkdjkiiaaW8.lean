/- Walk over list. -/
import Derived.Test.YtfiacjdkdjkiiaaW1
import Derived.Deep.AppendLies
import Derived.Laws.AppendOwnNone
namespace Go.Proofs.Ytfiacjdkdjkiiaa
open Go.RowKit
set_option linter.unusedVariables false

theorem Try.info3 : (Try.prog.info? 3).map (fun i => (i.zero, i.size, i.bytes)) = some (some (.int .i64 0), 1, 8) := by kernel_rfl

def intCells (xs : List Int) : List Value := xs.map (Value.int .i64)

theorem intCells_one (xs : List Int) : ∀ u ∈ intCells xs, u.oneCell' = true := by
  intro u hu
  simp only [intCells, List.mem_map] at hu
  obtain ⟨n, _, rfl⟩ := hu
  rfl
theorem intCells_get {w : World} {b off : Nat} {xs : List Int} (h : IntsAt w (some ⟨b, off, none⟩) xs) : ∀ j u, (intCells xs)[j]? = some u → w.cell? ((⟨b, off, none⟩ : Addr).add j) = some u := by
  intro j u hu
  simp only [intCells, List.getElem?_map, Option.map_eq_some_iff] at hu
  obtain ⟨n, hn, rfl⟩ := hu
  have hj : j < xs.length := (List.getElem?_eq_some_iff.1 hn).1
  obtain ⟨b', off', e, c⟩ := h j hj
  simp only [Option.some.injEq, Addr.mk.injEq] at e
  obtain ⟨rfl, rfl, _⟩ := e
  rw [List.getD_eq_getElem?_getD, hn] at c
  have : ((⟨b, off, none⟩ : Addr).add j) = ⟨b, off + j, none⟩ := by unfold Addr.add; split <;> simp_all
  rw [this]; exact c
/-- a row that is owned, as a slice of integers -/
theorem own_ints {w : World} {base : Nat} {v : Value} {xs : List Int} (h : w.ownsRow base 3 1 v xs.length (intCells xs)) : ∃ a cap, v = .slice a xs.length cap ∧ IntsAt w a xs ∧ (∀ g, v.ownBlock = some g → base ≤ g ∧ g < w.heap.size) := by
  have hlt := h.lt
  have hcell := @World.ownsRow.cells _ _ _ _ _ _ _ h
  obtain ⟨hl, h⟩ := h
  rcases h with ⟨rfl, h0⟩ | ⟨g, cap, cur, rfl, hb, hc, hn, hm, hs, ht⟩
  · refine ⟨none, 0, by rw [h0], ?_, hlt⟩
    intro k hk; omega
  · refine ⟨some ⟨g, 0, none⟩, cap, rfl, ?_, hlt⟩
    intro k hk
    refine ⟨g, 0, rfl, ?_⟩
    have := hcell (g := g) rfl k (.int .i64 (xs.getD k 0)) (by
      simp [intCells, List.getElem?_map, List.getD_eq_getElem?_getD, List.getElem?_eq_getElem hk])
    have e : ((⟨g, 0, none⟩ : Addr).add k) = ⟨g, 0 + k, none⟩ := by unfold Addr.add; split <;> simp_all
    rw [e] at this; exact this

theorem ownsRow_empty {w : World} {base : Nat} {e : TypeId} (hb : base ≤ w.heap.size) : (w.alloc (.cells #[] e)).ownsRow base e 1 (.slice (some ⟨w.heap.size, 0, none⟩) 0 0) 0 [] :=
  ⟨rfl, .inr ⟨w.heap.size, 0, #[], rfl, hb, by show (w.heap.push _)[w.heap.size]? = _; simp, Nat.le_refl _, Nat.zero_le _, rfl, rfl⟩⟩

set_option maxHeartbeats 400000 in
theorem list_any (a : Option Addr) (cap : Nat) (xs : List Int) (w : World) (hl : xs.length ≤ 1000) (hx : IntsAt w a xs) :
    Calls Try.prog 37 #[.slice a xs.length cap] w fun e w' => ∃ r, e = .returned r ∧ w'.ownsRow w.heap.size 3 1 r xs.length (intCells xs) ∧ Below w.heap.size w w' := by
  obtain ⟨i0, hi, hz0, hz1, hz2⟩ := info_parts Try.info3
  have hown := Lib.hid (ownsRow_empty (w := w) (base := w.heap.size) (e := 3) (Nat.le_refl _))
  have HX := Lib.hid (hx.below ((Below.refl _ _).alloc (Nat.le_refl _) (.cells #[] 3)))
  clear hx
  cases a with
  | none =>
    have h0 : xs = [] := by
      cases xs with
      | nil => rfl
      | cons x l => obtain ⟨b, off, e, _⟩ := HX.out 0 (by simp); cases e
    subst h0
    go_enter Try.func37, Try.ntmps37
    go_wp2
    go_ret
    exact ⟨_, rfl, hown.out, (Below.refl _ _).alloc (Nat.le_refl _) _⟩
  | some ad =>
    by_cases h0 : xs = []
    · subst h0
      go_enter Try.func37, Try.ntmps37
      go_wp2
      go_ret
      exact ⟨_, rfl, hown.out, (Below.refl _ _).alloc (Nat.le_refl _) _⟩
    · have hp : 0 < xs.length := List.length_pos_iff.2 h0
      obtain ⟨b, off, e, _⟩ := HX.out 0 hp
      simp only [Option.some.injEq] at e
      subst e
      clear h0
      have HN := Lib.hid (intCells_get HX.out)
      go_enter Try.func37, Try.ntmps37
      go_wp2_with (at_builtin; refine wpList_append_own _ rfl _ _ 27 rfl w.heap.size 3 i0 (.int .i64 0) 1 8 Try.underlying27 hi hz0 hz1 hz2 rfl (by decide) _ _ _ rfl hown.out ⟨b, off, none⟩ xs.length cap (intCells xs) rfl ?c2 HN.out (intCells_one _) ?c3 ?c4 ?c5 ?_)
      case c2 => simp [intCells]
      case c3 => unfold maxLen; omega
      case c4 => omega
      case c5 => simp
      intro v' w1 hown' hgrow _
      have HO := Lib.hid hown'; have HG := Lib.hid hgrow
      clear hown' hgrow
      go_wp2
      go_ret
      refine ⟨_, rfl, HO.out, ((Below.refl _ _).alloc (Nat.le_refl _) _).grown HG.out (by simp) ?_⟩
      intro k hk
      simp [Value.ownBlock] at hk
      omega
end Go.Proofs.Ytfiacjdkdjkiiaa
