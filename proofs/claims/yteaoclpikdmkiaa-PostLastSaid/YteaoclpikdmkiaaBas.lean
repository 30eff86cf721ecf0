/- General lemmas over plain data: what comes in, what goes out, lists. -/
import Derived.Test.YteaoclpikdmkiaaTL
import Derived.WalkKit
import Derived.WalkSpells
import Derived.Lib.Hide
import Derived.Deep.QuietTactic
import Derived.BigQuiet
import Derived.ChangeSame
import Derived.ChangeSlices
import Derived.ChangeShapes
section
section
namespace Go.Proofs.Yteaoclpikdmkiaa
open Go.RowKit
set_option linter.unusedVariables false

/-- cells of a slice of integers -/
def IntsAt (w : World) (a : Option Addr) (xs : List Int) : Prop :=
  ∀ k, k < xs.length → ∃ b off, a = some ⟨b, off, none⟩ ∧ w.cell? ⟨b, off + k, none⟩ = some (.int .i64 (xs.getD k 0))

def RowsAt (w : World) (a : Option Addr) (xs : List (List Int)) : Prop :=
  ∀ k, k < xs.length → ∃ b off pa pc, a = some ⟨b, off, none⟩ ∧ w.cell? ⟨b, off + k, none⟩ = some (.slice pa (xs.getD k []).length pc) ∧ IntsAt w pa (xs.getD k [])

theorem cell_below {w w' : World} {p : Addr} {v : Value} (hb : Below w.heap.size w w') (h : w.cell? p = some v) : w'.cell? p = some v :=
  (hb.cell (World.block_lt_of_cell? _ _ h)).trans h

theorem IntsAt.below {w w' : World} {a : Option Addr} {xs : List Int} (h : IntsAt w a xs) (hb : Below w.heap.size w w') : IntsAt w' a xs := fun k hk => by
  obtain ⟨b, off, e, c⟩ := h k hk
  exact ⟨b, off, e, cell_below hb c⟩
theorem RowsAt.below {w w' : World} {a : Option Addr} {xs : List (List Int)} (h : RowsAt w a xs) (hb : Below w.heap.size w w') : RowsAt w' a xs := fun k hk => by
  obtain ⟨b, off, pa, pc, e, c, d⟩ := h k hk
  exact ⟨b, off, pa, pc, e, cell_below hb c, d.below hb⟩
theorem below_drewN' {B : Nat} {a w : World} (h : Below B a w) (n : Nat) : Below B a (w.drewN n) := ⟨h.os, h.tape, h.output, h.size, h.block⟩

def inB (n lo hi : Int) : Bool := decide (lo ≤ n ∧ n ≤ hi)
theorem all_getD {α : Type} {d : α} {l : List α} {p : α → Bool} : l.all p = true ↔ ∀ k, k < l.length → p (l.getD k d) = true := by
  rw [List.all_eq_true]
  constructor
  · intro h k hk
    rw [List.getD_eq_getElem?_getD, List.getElem?_eq_getElem hk]
    exact h _ (List.getElem_mem hk)
  · intro h x hx
    obtain ⟨k, hk, rfl⟩ := List.getElem_of_mem hx
    have := h k hk
    rw [List.getD_eq_getElem?_getD, List.getElem?_eq_getElem hk] at this
    exact this
theorem all_false_getD {α : Type} {d : α} {l : List α} {p : α → Bool} (k : Nat) (hk : k < l.length) (h : p (l.getD k d) = false) : l.all p = false := by
  cases e : l.all p
  · rfl
  · rw [(all_getD (d := d)).1 e k hk] at h; cases h

end Go.Proofs.Yteaoclpikdmkiaa
end
section
namespace Go.Proofs.Yteaoclpikdmkiaa
set_option linter.unusedVariables false

end Go.Proofs.Yteaoclpikdmkiaa
end
section
namespace Go.Proofs.Yteaoclpikdmkiaa
open Go.RowKit
set_option linter.unusedVariables false
set_option linter.unusedSimpArgs false
theorem mem_getD {α : Type} {l : List α} {x d : α} (h : x ∈ l) : ∃ k, k < l.length ∧ l.getD k d = x := by
  obtain ⟨k, hk, rfl⟩ := List.getElem_of_mem h
  exact ⟨k, hk, by simp [List.getD_eq_getElem?_getD, hk]⟩
end Go.Proofs.Yteaoclpikdmkiaa
end
section
namespace Go.Proofs.Yteaoclpikdmkiaa
open Go.RowKit
set_option linter.unusedVariables false
end Go.Proofs.Yteaoclpikdmkiaa
end
section
namespace Go.Proofs.Yteaoclpikdmkiaa
open Go.RowKit
set_option linter.unusedVariables false
end Go.Proofs.Yteaoclpikdmkiaa
end

end
section
section
namespace Go.Proofs.Yteaoclpikdmkiaa
open Go.RowKit
set_option linter.unusedVariables false

theorem take_succ_getD {α : Type} {l : List α} {k : Nat} (d : α) (h : k < l.length) : l.take (k + 1) = l.take k ++ [l.getD k d] := by
  rw [List.take_succ_eq_append_getElem h, List.getD_eq_getElem?_getD, List.getElem?_eq_getElem h]; rfl

def sumI : List Int → Int
  | [] => 0
  | x :: l => x + sumI l
theorem sumI_append (l m : List Int) : sumI (l ++ m) = sumI l + sumI m := by
  induction l with
  | nil => simp [sumI]
  | cons x l ih => simp [sumI, ih]; omega
theorem sumI_bd (l : List Int) (B : Int) (h : ∀ x ∈ l, -B ≤ x ∧ x ≤ B) : -(B * l.length) ≤ sumI l ∧ sumI l ≤ B * l.length := by
  induction l with
  | nil => simp [sumI]
  | cons x l ih =>
    have h1 := h x (by simp)
    have h2 := ih (fun y hy => h y (by simp [hy]))
    simp only [sumI, List.length_cons, Int.natCast_add, Int.cast_ofNat_Int]
    rw [Int.mul_add]; omega
theorem getD_mem {α : Type} {l : List α} {k : Nat} {d : α} (h : k < l.length) : l.getD k d ∈ l := by
  rw [List.getD_eq_getElem?_getD, List.getElem?_eq_getElem h]
  exact List.getElem_mem h

end Go.Proofs.Yteaoclpikdmkiaa
end
section
namespace Go.Proofs.Yteaoclpikdmkiaa
open Go.RowKit
set_option linter.unusedVariables false

end Go.Proofs.Yteaoclpikdmkiaa
end
section
namespace Go.Proofs.Yteaoclpikdmkiaa
open Go.RowKit
set_option linter.unusedVariables false

end Go.Proofs.Yteaoclpikdmkiaa
end
section
namespace Go.Proofs.Yteaoclpikdmkiaa
open Go.RowKit
set_option linter.unusedVariables false

end Go.Proofs.Yteaoclpikdmkiaa
end
section
namespace Go.Proofs.Yteaoclpikdmkiaa
open Go.RowKit
set_option linter.unusedVariables false

end Go.Proofs.Yteaoclpikdmkiaa
end
section
namespace Go.Proofs.Yteaoclpikdmkiaa
open Go.RowKit
set_option linter.unusedVariables false

end Go.Proofs.Yteaoclpikdmkiaa
end

end
section
section
namespace Go.Proofs.Yteaoclpikdmkiaa
open Go Go.RowKit Go.Tl
set_option linter.unusedVariables false
def rowsT (cp : Bool) (xs : List (List Int)) : Tr := .sl cp 1 xs.length (fun k => [intsT false (xs.getD k [])])
section
variable {w : World} {S : Nat → Prop}
theorem sc_inv {u v : Value} (h : Tl.TRel w S (.sc u) v) : v = u := by cases h; rfl
theorem sl_inv {cp : Bool} {sz n : Nat} {f : Nat → List Tr} {v : Value} (h : Tl.TRel w S (.sl cp sz n f) v) : ∃ (a : Option Addr) (c : Nat) (val : Nat → Nat → Value), v = .slice a n c ∧ (cp = true → n ≤ c) ∧
    ∀ k, k < n → ∃ b off, a = some ⟨b, off, none⟩ ∧ S b ∧ (∀ j, j < sz → w.cell? ⟨b, off + k * sz + j, none⟩ = some (val k j)) ∧ ∀ (j : Nat) (x : Tr), (f k)[j]? = some x → Tl.TRel w S x (val k j) := by
  cases h with
  | sl val hc hl h ih => exact ⟨_, _, val, rfl, hc, fun k hk => by obtain ⟨b, off, e, hb, hcell⟩ := h k hk; exact ⟨b, off, e, hb, hcell, fun j x hx => ih k j x hk hx⟩⟩
theorem ints_at {cp : Bool} {xs : List Int} {v : Value} (h : Tl.TRel w S (intsT cp xs) v) : ∃ a c, v = .slice a xs.length c ∧ (cp = true → xs.length ≤ c) ∧ IntsAt w a xs := by
  obtain ⟨a, c, val, rfl, hc, h⟩ := sl_inv h
  refine ⟨a, c, rfl, hc, fun k hk => ?_⟩
  obtain ⟨b, off, e, _, hcell, hr⟩ := h k hk
  refine ⟨b, off, e, ?_⟩
  rw [← sc_inv (hr 0 _ rfl)]
  simpa using hcell 0 (by omega)
theorem rows_at {cp : Bool} {xs : List (List Int)} {v : Value} (h : Tl.TRel w S (rowsT cp xs) v) : ∃ a c, v = .slice a xs.length c ∧ (cp = true → xs.length ≤ c) ∧ RowsAt w a xs := by
  obtain ⟨a, c, val, rfl, hc, h⟩ := sl_inv h
  refine ⟨a, c, rfl, hc, fun k hk => ?_⟩
  obtain ⟨b, off, e, _, hcell, hr⟩ := h k hk
  obtain ⟨pa, pc, e1, _, hi⟩ := ints_at (hr 0 _ rfl)
  refine ⟨b, off, pa, pc, e, ?_, hi⟩
  rw [← e1]
  simpa using hcell 0 (by omega)
theorem ag_inv {cs : List AV} {v : Value} (h : VRel w S (.ag cs) v) : ∃ vs : List Value, v = .agg vs.toArray ∧ VRels w S cs vs := by
  cases h with | ag hl h => exact ⟨_, rfl, hl, h⟩
theorem t_inv {x : Tr} {v : Value} (h : VRel w S (.t x) v) : Tl.TRel w S x v := by cases h; assumption
theorem rels1 {x : AV} {r : List AV} {vs : List Value} (h : VRels w S (x :: r) vs) : ∃ v us, vs = v :: us ∧ VRel w S x v ∧ VRels w S r us := by
  cases vs with
  | nil => have := h.1; simp at this
  | cons v us => exact ⟨v, us, rfl, h.2 0 x v rfl rfl, by have := h.1; simpa using this, fun j a b ha hb => h.2 (j + 1) a b (by simpa using ha) (by simpa using hb)⟩
theorem rels0 {vs : List Value} (h : VRels w S [] vs) : vs = [] := List.length_eq_zero_iff.1 h.1.symm
end
theorem pcall_below {P : Program} {f : Nat} {args : List AV} {R : AV → Prop}
    (h : ∀ (w : World) (S : Nat → Prop) (vs : List Value), VRels w S args vs → Calls P f vs.toArray w fun e w' => ∃ v r, e = .returned v ∧ R r ∧ Below w.heap.size w w' ∧ VRel w' (fun b => S b ∨ (w.heap.size ≤ b ∧ b < w'.heap.size)) r v) : PCall P f args R := fun w S vs hlt hh hv =>
  (h w S vs hv).mono fun e w' ⟨v, r, e1, hr, hb, hvr⟩ => ⟨v, _, r, [], e1, ⟨hr, rfl⟩, hvr, ⟨hb.os, hb.tape, hb.output, hb.size, fun b hlt _ => hb.block b hlt, fun b hb => .inl hb, fun b hb => by rcases hb with h | h; exact .inl h; exact .inr (.inl h.1)⟩,
    fun b h => by rcases h with h | h; exact Nat.lt_of_lt_of_le (hlt b h) hb.size; exact h.2, HRel.nil, fun e he => (by cases he)⟩
theorem none_rel {w : World} {S : Nat → Prop} {cp : Bool} {n : Nat} {f : Nat → List Tr} : Tl.TRel w S (.sl cp n 0 f) (.slice none 0 0) :=
  .sl (fun _ _ => undef) (fun _ => Nat.le_refl _) (fun k hk => absurd hk (by omega)) (fun k hk => absurd hk (by omega)) (fun k j x hk => absurd hk (by omega))
abbrev noneA : AV := .v (.slice none 0 0)
theorem ints_le {cp : Bool} (xs : List Int) : TrLe (intsT cp xs) (intsT false xs) := .sl (fun h => by cases h) (fun k hk => ⟨rfl, fun j x x' h1 h2 => by rw [h1] at h2; cases h2; exact .refl _⟩)
theorem one_le {x x' : Tr} (h : TrLe x x') : ∀ (j : Nat) (y y' : Tr), ([x] : List Tr)[j]? = some y → ([x'] : List Tr)[j]? = some y' → TrLe y y' := fun j y y' h1 h2 => by
  match j with
  | 0 => simp at h1 h2; subst h1; subst h2; exact h
  | j + 1 => simp at h1
end Go.Proofs.Yteaoclpikdmkiaa
namespace Go.Proofs.Yteaoclpikdmkiaa
open Go Go.RowKit Go.Tl
set_option linter.unusedVariables false
set_option linter.unusedSimpArgs false
theorem rows_tree {α : Type} {d : α} (xs : List α) (row : α → List AV) (f : α → List Tr) (h : ∀ x, row x = (f x).map AV.ofTr) : ∀ k, k < xs.length → (xs.map row).getD k [] = ((fun k => f (xs.getD k d)) k).map AV.ofTr := fun k hk => by
  simp [List.getD_eq_getElem?_getD, hk, h]
theorem rows_step {α : Type} {d : α} {xs : List α} {k : Nat} (row : α → List AV) (hk : k < xs.length) : (xs.take (k + 1)).map row = (xs.take k).map row ++ [row (xs.getD k d)] := by
  rw [take_succ_getD d hk, List.map_append]; rfl
theorem rows_len {α : Type} {xs : List α} {k : Nat} {rows : List (List AV)} {row : α → List AV} (h : rows = (xs.take k).map row) (hk : k ≤ xs.length) : rows.length = k := by rw [h]; simp; omega
def lstRow (x : List Int) : List AV := [.t (intsT true x)]
theorem lstRows_tree (xs : List (List Int)) : ∀ k, k < xs.length → (xs.map lstRow).getD k [] = ((fun k => [intsT true (xs.getD k [])]) k).map AV.ofTr := fun k hk => by
  simp [List.getD_eq_getElem?_getD, hk, lstRow, AV.ofTr, intsT]
theorem range_step {α : Type} (f : Nat → α) (k : Nat) : (List.range (k + 1)).map f = (List.range k).map f ++ [f k] := by rw [List.range_succ, List.map_append]; rfl
theorem ofn_le {cp : Bool} {sz n : Nat} {f f' : Nat → List Tr} (h : ∀ k, k < n → (f' k).length = (f k).length ∧ ∀ (j : Nat) (x x' : Tr), (f k)[j]? = some x → (f' k)[j]? = some x' → TrLe x x') : TrLe (.sl true sz n f) (.sl cp sz n f') := .sl (fun _ => rfl) h
theorem inB_iff {n lo hi : Int} : inB n lo hi = true ↔ lo ≤ n ∧ n ≤ hi := by simp [inB]
end Go.Proofs.Yteaoclpikdmkiaa
end
section
namespace Go.Proofs.Yteaoclpikdmkiaa
open Go Go.RowKit Go.ChangeShapes
set_option linter.unusedVariables false
set_option linter.unusedSimpArgs false
theorem list_of {α : Type} [Inhabited α] {n : Nat} {R : Nat → α → Prop} (h : ∀ i, i < n → ∃ x, R i x) : ∃ l : List α, l.length = n ∧ ∀ i, i < n → R i (l.getD i default) := by
  classical
  refine ⟨(List.range n).map fun i => if hi : i < n then Classical.choose (h i hi) else default, by simp, fun i hi => ?_⟩
  have e : ((List.range n).map fun i => if hi : i < n then Classical.choose (h i hi) else default).getD i default = Classical.choose (h i hi) := by
    simp [List.getD_eq_getElem?_getD, hi]
  rw [e]
  exact Classical.choose_spec (h i hi)
section
variable {H : Type} {enc : TypeId × Value → H} {P : Program} {w : World} {base : Nat} {spare : Nat → Bool} {held : Bool}
theorem open_slice {α : Type} [Inhabited α] {t e : TypeId} {sz fuel : Nat} {cs : List Value} {x : DataW H × List MemPlace} (ht : P.underlying t = some (.slice e)) (hsz : P.cellsOf e = sz) (hpos : 0 < sz) {R : (Nat → Value) → α → Prop}
    (hR : ∀ (fuel : Nat) (cs : List Value) (y : DataW H × List MemPlace), DataW.trod enc P w base spare held fuel e cs = some y → cs.length = sz → ∃ r : α, R (fun j => cs.getD j undef) r)
    (h : DataW.trod enc P w base spare held fuel t cs = some x) :
    ∃ (a : Option Addr) (c : Nat) (l : List α), cs = [.slice a l.length c] ∧ l.length ≤ maxLen ∧ ∀ k, k < l.length → ∃ b off val, a = some ⟨b, off, none⟩ ∧ (∀ j, j < sz → w.cell? ⟨b, off + k * sz + j, none⟩ = some (val j)) ∧ R val (l.getD k default) := by
  rcases DataW.trod_slice ht h with ⟨rfl, _⟩ | ⟨a, len, cap, elems, rest, n, _, rfl, _, hb, hl, hm, hlen, hel, _, _⟩
  · exact ⟨none, 0, [], rfl, Nat.zero_le _, fun k hk => absurd hk (Nat.not_lt_zero _)⟩
  have hspot : 0 < len → a.spot = none := fun h0 => by
    have h1 := hel 0 h0
    rw [hsz, List.getElem?_eq_getElem (by omega), Option.bind_eq_some_iff] at h1
    obtain ⟨cs1, hc1, hy1⟩ := h1
    obtain ⟨_, hl1, hcell⟩ := World.cells?_some hc1
    have g0 := hcell 0 hpos
    rw [List.getElem?_eq_getElem (by omega)] at g0
    simpa [Addr.add] using World.cell?_spot g0
  have each : ∀ i, i < len → ∃ r : α, ∃ b off val, some a = some ⟨b, off, none⟩ ∧ (∀ j, j < sz → w.cell? ⟨b, off + i * sz + j, none⟩ = some (val j)) ∧ R val r := fun i hi => by
    have h1 := hel i hi
    rw [hsz, List.getElem?_eq_getElem (by omega), Option.bind_eq_some_iff] at h1
    obtain ⟨cs1, hc1, hy1⟩ := h1
    obtain ⟨_, hl1, hcell⟩ := World.cells?_some hc1
    obtain ⟨r, hr⟩ := hR n cs1 _ hy1 hl1
    obtain ⟨b, off, spot⟩ := a
    have hsp : spot = none := hspot (by omega)
    subst hsp
    refine ⟨r, b, off, fun j => cs1.getD j undef, rfl, fun j hj => ?_, hr⟩
    have g := hcell j hj
    rw [List.getElem?_eq_getElem (by omega)] at g
    have e2 : cs1.getD j undef = cs1[j]'(by omega) := by simp [List.getD_eq_getElem?_getD, show j < cs1.length by omega]
    show _ = some (cs1.getD j undef)
    rw [e2, ← g]
    congr 1
    unfold Addr.add
    split <;> split <;> simp_all
  obtain ⟨l, hll, hl2⟩ := list_of each
  exact ⟨some a, cap, l, by rw [hll], by omega, fun k hk => hl2 k (by omega)⟩
theorem trod_struct3 {t : TypeId} {f0 f1 f2 : Field} {fuel : Nat} {cs : List Value} {x : DataW H × List MemPlace} (ht : P.underlying t = some (.struct #[f0, f1, f2])) (h : DataW.trod enc P w base spare held fuel t cs = some x) :
    ∃ y0 y1 y2 n, cs.length = P.cellsOf t ∧ DataW.trod enc P w base spare held n f0.type ((cs.drop f0.offset).take (P.cellsOf f0.type)) = some y0 ∧
      DataW.trod enc P w base spare held n f1.type ((cs.drop f1.offset).take (P.cellsOf f1.type)) = some y1 ∧ DataW.trod enc P w base spare held n f2.type ((cs.drop f2.offset).take (P.cellsOf f2.type)) = some y2 := by
  obtain ⟨xs, n, _, rfl, hl, hlen, hf⟩ := DataW.trod_struct ht h
  match xs, hlen with
  | [y0, y1, y2], _ => exact ⟨y0, y1, y2, n, hl, by simpa using hf 0 f0 rfl, by simpa using hf 1 f1 rfl, by simpa using hf 2 f2 rfl⟩
theorem open_i64s {t e : TypeId} {fuel : Nat} {cs : List Value} {x : DataW H × List MemPlace} (ht : P.underlying t = some (.slice e)) (he : P.underlying e = some (.int .i64)) (hc : P.cellsOf e = 1)
    (h : DataW.trod enc P w base spare held fuel t cs = some x) : ∃ (a : Option Addr) (c : Nat) (xs : List Int), cs = [.slice a xs.length c] ∧ xs.length ≤ maxLen ∧ IntsAt w a xs := by
  obtain ⟨a, c, l, h1, h2, h3⟩ := open_slice (α := Int) (R := fun val r => val 0 = .int .i64 r) ht hc (by omega) (fun fuel cs y hy hl => by
    obtain ⟨n, rfl, _, _⟩ := DataW.trod_int he hy
    exact ⟨n, rfl⟩) h
  refine ⟨a, c, l, h1, h2, fun k hk => ?_⟩
  obtain ⟨b, off, val, e, g, r⟩ := h3 k hk
  refine ⟨b, off, e, ?_⟩
  have := g 0 (by omega)
  rw [r] at this
  simpa using this
theorem open_rows {t te e : TypeId} {fuel : Nat} {cs : List Value} {x : DataW H × List MemPlace} (hs : P.underlying t = some (.slice te)) (hsz : P.cellsOf te = 1) (ht : P.underlying te = some (.slice e)) (he : P.underlying e = some (.int .i64)) (hc : P.cellsOf e = 1)
    (h : DataW.trod enc P w base spare held fuel t cs = some x) : ∃ (a : Option Addr) (c : Nat) (xs : List (List Int)), cs = [.slice a xs.length c] ∧ xs.length ≤ maxLen ∧ RowsAt w a xs := by
  obtain ⟨a, c, l, g1, g2, g3⟩ := open_slice (α := List Int) (R := fun val r => ∃ pa pc, val 0 = .slice pa r.length pc ∧ IntsAt w pa r) hs hsz (by omega) (fun fuel cs y hy hl => by
    obtain ⟨pa, pc, xs, rfl, _, hx⟩ := open_i64s ht he hc hy
    exact ⟨xs, pa, pc, rfl, hx⟩) h
  refine ⟨a, c, l, g1, g2, fun k hk => ?_⟩
  obtain ⟨b, off, val, e, g, pa, pc, r1, r2⟩ := g3 k hk
  refine ⟨b, off, pa, pc, e, ?_, r2⟩
  have := g 0 (by omega)
  rw [r1, Nat.mul_one, Nat.add_zero] at this
  exact this
end
end Go.Proofs.Yteaoclpikdmkiaa
end
section
namespace Go.Proofs.Yteaoclpikdmkiaa
open Go Go.RowKit Go.Tl
set_option linter.unusedVariables false
section
variable {w : World}
theorem sl_in {a : Option Addr} {c sz n : Nat} {f : Nat → List Tr} (hl : ∀ k, k < n → (f k).length = sz) (hsz : 0 < sz)
    (h : ∀ k, k < n → ∃ (b off : Nat) (val : Nat → Value), a = some ⟨b, off, none⟩ ∧ (∀ j, j < sz → w.cell? ⟨b, off + k * sz + j, none⟩ = some (val j)) ∧ ∀ (j : Nat) (x : Tr), (f k)[j]? = some x → Tl.TRel w (fun b => b < w.heap.size) x (val j)) :
    Tl.TRel w (fun b => b < w.heap.size) (.sl false sz n f) (.slice a n c) := by
  have h' : ∀ k, ∃ val : Nat → Value, k < n → ∃ b off : Nat, a = some ⟨b, off, none⟩ ∧ (∀ j, j < sz → w.cell? ⟨b, off + k * sz + j, none⟩ = some (val j)) ∧ ∀ (j : Nat) (x : Tr), (f k)[j]? = some x → Tl.TRel w (fun b => b < w.heap.size) x (val j) := fun k => by
    by_cases hk : k < n
    · obtain ⟨b, off, val, h1, h2, h3⟩ := h k hk
      exact ⟨val, fun _ => ⟨b, off, h1, h2, h3⟩⟩
    · exact ⟨fun _ => undef, fun h => absurd h hk⟩
  obtain ⟨V, hV⟩ := Classical.axiomOfChoice h'
  refine .sl V (fun h => by cases h) hl (fun k hk => ?_) (fun k j x hk hx => ?_)
  · obtain ⟨b, off, h1, h2, _⟩ := hV k hk
    exact ⟨b, off, h1, World.block_lt_of_cell? _ _ (h2 0 hsz), h2⟩
  · obtain ⟨b, off, _, _, h3⟩ := hV k hk
    exact h3 j x hx
theorem ints_in {a : Option Addr} {c : Nat} {xs : List Int} (h : IntsAt w a xs) : Tl.TRel w (fun b => b < w.heap.size) (intsT false xs) (.slice a xs.length c) := by
  refine sl_in (fun _ _ => rfl) (by omega) (fun k hk => ?_)
  obtain ⟨b, off, e, hc⟩ := h k hk
  refine ⟨b, off, fun _ => .int .i64 (xs.getD k 0), e, fun j hj => ?_, fun j x hx => ?_⟩
  · obtain rfl : j = 0 := by omega
    simpa using hc
  · match j with
    | 0 => simp at hx; subst hx; exact .sc _
    | j + 1 => simp at hx
theorem rows_in {a : Option Addr} {c : Nat} {xs : List (List Int)} (h : RowsAt w a xs) : Tl.TRel w (fun b => b < w.heap.size) (rowsT false xs) (.slice a xs.length c) := by
  refine sl_in (fun _ _ => rfl) (by omega) (fun k hk => ?_)
  obtain ⟨b, off, pa, pc, e, h0, h1⟩ := h k hk
  refine ⟨b, off, fun _ => .slice pa (xs.getD k []).length pc, e, fun j hj => ?_, fun j x hx => ?_⟩
  · obtain rfl : j = 0 := by omega
    simpa using h0
  · match j with
    | 0 => simp at hx; subst hx; exact ints_in h1
    | j + 1 => simp at hx
theorem rels_cons {S : Nat → Prop} {x : AV} {v : Value} {xs : List AV} {vs : List Value} (h : VRel w S x v) (hs : VRels w S xs vs) : VRels w S (x :: xs) (v :: vs) :=
  ⟨by simp [hs.1], fun j a b ha hb => by
    cases j with
    | zero => simp at ha hb; subst ha; subst hb; exact h
    | succ j => exact hs.2 j a b (by simpa using ha) (by simpa using hb)⟩
theorem rels_nil {S : Nat → Prop} : VRels w S [] [] := ⟨rfl, fun j x y h => by simp at h⟩
theorem ag_rel {S : Nat → Prop} {cs : List AV} {vs : List Value} (h : VRels w S cs vs) : VRel w S (.ag cs) (.agg vs.toArray) := .ag h.1 h.2
end
theorem pcall_calls {P : Program} {f : Nat} {args : List AV} {R : AV → Prop} (h : PCall P f args R) {w : World} {vs : List Value} (hv : VRels w (fun b => b < w.heap.size) args vs) {v : Value} (hR : ∀ r, R r → r = .v v) :
    Calls P f vs.toArray w fun e w' => e = .returned v ∧ Below w.heap.size w w' :=
  (h w _ vs (fun _ h => h) HRel.nil hv).mono fun e w' ⟨u, S', r, h', e1, ⟨hr, _⟩, hvr, hx, _⟩ => by
    have := hR r hr
    subst this
    rw [hvr.lit_inv] at e1
    exact ⟨e1, hx.os, hx.tape, hx.output, hx.size, fun b hb => hx.keep b hb (fun ⟨e, he, _⟩ => by cases he)⟩
end Go.Proofs.Yteaoclpikdmkiaa
end
section
namespace Go.Proofs.Yteaoclpikdmkiaa
open Go Go.RowKit Go.ChangeShapes Go.Tl
set_option linter.unusedVariables false
def KintsAt (k : IntKind) (w : World) (a : Option Addr) (xs : List Int) : Prop :=
  ∀ j, j < xs.length → ∃ b off, a = some ⟨b, off, none⟩ ∧ w.cell? ⟨b, off + j, none⟩ = some (.int k (xs.getD j 0))
abbrev kintsT (k : IntKind) (xs : List Int) : Tr := .sl false 1 xs.length (fun j => [.sc (.int k (xs.getD j 0))])
theorem kints_in {k : IntKind} {w : World} {a : Option Addr} {c : Nat} {xs : List Int} (h : KintsAt k w a xs) : Tl.TRel w (fun b => b < w.heap.size) (kintsT k xs) (.slice a xs.length c) := by
  refine sl_in (fun _ _ => rfl) (by omega) fun j hj => ?_
  obtain ⟨b, off, e, hc⟩ := h j hj
  exact ⟨b, off, fun _ => .int k (xs.getD j 0), e, fun q hq => by obtain rfl : q = 0 := by omega
                                                                  simpa using hc, fun q x hx => by
    cases q with
    | zero => simp at hx; subst hx; exact .sc _
    | succ q => simp at hx⟩
theorem wf_in {k : IntKind} {n : Int} (h : (Lit.int k n).wf = true) : k.min ≤ n ∧ n ≤ k.max := by simpa [Lit.wf] using h
section
variable {P : Program} {H : Type} {enc : TypeId × Value → H} {w : World} {base : Nat} {spare : Nat → Bool} {held : Bool}
theorem open_kints {k : IntKind} {t e : TypeId} {fuel : Nat} {cs : List Value} {x : DataW H × List MemPlace} (ht : P.underlying t = some (.slice e)) (he : P.underlying e = some (.int k)) (hc : P.cellsOf e = 1)
    (h : DataW.trod enc P w base spare held fuel t cs = some x) : ∃ (a : Option Addr) (c : Nat) (xs : List Int), cs = [.slice a xs.length c] ∧ xs.length ≤ maxLen ∧ KintsAt k w a xs ∧ ∀ y ∈ xs, k.min ≤ y ∧ y ≤ k.max := by
  obtain ⟨a, c, l, h1, h2, h3⟩ := open_slice (α := Int) (R := fun val r => val 0 = .int k r ∧ k.min ≤ r ∧ r ≤ k.max) ht hc (by omega) (fun fuel cs y hy hl => by
    obtain ⟨n, rfl, _, hw⟩ := DataW.trod_int he hy
    exact ⟨n, rfl, wf_in hw⟩) h
  refine ⟨a, c, l, h1, h2, fun j hj => ?_, fun y hy => ?_⟩
  · obtain ⟨b, off, val, e, g, r⟩ := h3 j hj
    refine ⟨b, off, e, ?_⟩
    have := g 0 (by omega)
    rw [r.1] at this
    simpa using this
  · obtain ⟨j, hj, rfl⟩ := List.getElem_of_mem hy
    obtain ⟨b, off, val, e, g, r⟩ := h3 j hj
    have e : l.getD j default = l[j] := by simp [List.getD_eq_getElem?_getD, hj]
    rw [e] at r
    exact r.2
end
theorem trod1 {P : Program} {H : Type} {enc : TypeId × Value → H} {w : World} {base : Nat} {spare : Nat → Bool} {held : Bool} {t : TypeId} {ts : List TypeId} {vs : List Value} {ds : List (DataW H)} {ps : List MemPlace} (h : DataW.TrodAll enc P w base spare held (t :: ts) vs ds ps) :
    ∃ v vs' d ds' p q, vs = v :: vs' ∧ ds = d :: ds' ∧ ps = p ++ q ∧ DataW.Trod enc P w base spare held t v d p ∧ DataW.TrodAll enc P w base spare held ts vs' ds' q := trodAll_cons h
end Go.Proofs.Yteaoclpikdmkiaa
end

end
section
section
namespace Go.Proofs.Yteaoclpikdmkiaa
open Go.RowKit
set_option linter.unusedVariables false

end Go.Proofs.Yteaoclpikdmkiaa
end
section
namespace Go.Tl
open Go Go.RowKit
set_option linter.unusedVariables false
theorem acall_own {P : Program} {g : Nat} {v : Value} {E sz n : Nat} {rows : List (List AV)} {f : Nat → List Tr} {R : AV → Prop} (C : PCall P g [.t (.sl true sz n f)] R) (hn : rows.length = n) (hf : ∀ k, k < n → rows.getD k [] = (f k).map AV.ofTr) :
    ACall P g [.v v] [.rw v E sz rows] (fun r h' => R r ∧ h' = []) := fun w S vs h1 h2 h3 => by
  have he := h2.ent _ List.mem_cons_self
  have ht := row_tree he hn hf
  have hlt' : ∀ b, (S b ∨ v.ownBlock = some b) → b < w.heap.size := fun b hb => by
    rcases hb with hb | hb
    · exact h1 b hb
    · obtain ⟨xs, ho, _⟩ := he
      exact (ho.lt b hb).2
  have hvs : vs = [v] := by
    have := VRels.lits_inv (xs := [v]) h3
    exact this
  subst hvs
  refine (C w _ [v] hlt' HRel.nil (.cons (.t ht) .nil)).mono fun e w' ⟨v', S'', r, h', e1, hq, hvr, E', hlt, hr, hl⟩ => ⟨v', S'', r, h', e1, hq, hvr, ⟨E'.os, E'.tape, E'.output, E'.size, fun b hb hn => E'.keep b hb (fun ⟨e, he, _⟩ => by cases he), fun b hb => E'.stab b (.inl hb), fun b hb => ?_⟩, hlt, hr, fun e he => ?_⟩
  · rcases E'.new b hb with (h | h) | h | ⟨e, he, _⟩
    · exact .inl h
    · exact .inr (.inr ⟨_, List.mem_cons_self, h⟩)
    · exact .inr (.inl h)
    · cases he
  · rw [hq.2] at he; cases he
theorem acall_borrow {P : Program} {g : Nat} {v : Value} {E sz n : Nat} {rows : List (List AV)} {f : Nat → List Tr} {u : Value} (C : PCall P g [.t (.sl true sz n f)] (fun r => r = .v u)) (hn : rows.length = n) (hf : ∀ k, k < n → rows.getD k [] = (f k).map AV.ofTr) :
    ACall P g [.v v] [.rw v E sz rows] (fun r h' => r = .v u ∧ h' = [.rw v E sz rows]) := fun w S vs h1 h2 h3 => by
  have he := h2.ent _ List.mem_cons_self
  have ht := row_tree he hn hf
  have hown : ∀ b, v.ownBlock = some b → b < w.heap.size := fun b hb => by
    obtain ⟨xs, ho, _⟩ := he
    exact (ho.lt b hb).2
  have hlt' : ∀ b, (S b ∨ v.ownBlock = some b) → b < w.heap.size := fun b hb => by
    rcases hb with hb | hb
    · exact h1 b hb
    · exact hown b hb
  have hvs : vs = [v] := VRels.lits_inv (xs := [v]) h3
  subst hvs
  refine (C w _ [v] hlt' HRel.nil (.cons (.t ht) .nil)).mono fun e w' ⟨v', S'', r, h', e1, hq, hvr, E', hlt, hr, hl⟩ => ?_
  obtain ⟨rfl, rfl⟩ := hq
  have hk : ∀ b, b < w.heap.size → w'.heap[b]? = w.heap[b]? := fun b hb => E'.keep b hb (fun ⟨e, he, _⟩ => by cases he)
  rw [hvr.lit_inv] at e1
  exact ⟨_, S, _, _, e1, ⟨rfl, rfl⟩, .v _, ⟨E'.os, E'.tape, E'.output, E'.size, fun b hb _ => hk b hb, fun _ h => h, fun _ h => .inl h⟩, fun b hb => Nat.lt_of_lt_of_le (h1 b hb) E'.size,
    h2.same h1 (fun _ h => h) (fun _ h => .inl h) ⟨E'.os, E'.tape, E'.output, E'.size, fun b hb _ => hk b hb⟩, fun e he g hg => .inl ⟨e, he, hg⟩⟩
end Go.Tl
namespace Go.Proofs.Yteaoclpikdmkiaa
open Go Go.RowKit Go.Tl
set_option linter.unusedVariables false
end Go.Proofs.Yteaoclpikdmkiaa
end
section
namespace Go.Proofs.Yteaoclpikdmkiaa
open Go.RowKit
set_option linter.unusedVariables false
set_option linter.unusedSectionVars false
section

end
end Go.Proofs.Yteaoclpikdmkiaa
end

end
namespace Go.Tl
open Go Go.RowKit
theorem acall_borrow2 {P : Program} {g : Nat} {A : AV} {v : Value} {E sz n : Nat} {rows : List (List AV)} {f : Nat → List Tr} {u : Value} (C : PCall P g [A, .t (.sl true sz n f)] (fun r => r = .v u)) (hn : rows.length = n) (hf : ∀ k, k < n → rows.getD k [] = (f k).map AV.ofTr) :
    ACall P g [A, .v v] [.rw v E sz rows] (fun r h' => r = .v u ∧ h' = [.rw v E sz rows]) := fun w S vs h1 h2 h3 => by
  have he := h2.ent _ List.mem_cons_self
  have ht := row_tree he hn hf
  have hown : ∀ b, v.ownBlock = some b → b < w.heap.size := fun b hb => by
    obtain ⟨xs, ho, _⟩ := he
    exact (ho.lt b hb).2
  have hlt' : ∀ b, (S b ∨ v.ownBlock = some b) → b < w.heap.size := fun b hb => by
    rcases hb with hb | hb
    · exact h1 b hb
    · exact hown b hb
  obtain ⟨a, us, rfl, ha, h3⟩ := Go.Proofs.Yteaoclpikdmkiaa.rels1 h3
  have hvs : us = [v] := VRels.lits_inv (xs := [v]) h3
  subst hvs
  refine (C w _ [a, v] hlt' HRel.nil (.cons (ha.mono (fun b hb => .inl hb) (fun _ _ => rfl)) (.cons (.t ht) .nil))).mono fun e w' ⟨v', S'', r, h', e1, hq, hvr, E', hlt, hr, hl⟩ => ?_
  obtain ⟨rfl, rfl⟩ := hq
  have hk : ∀ b, b < w.heap.size → w'.heap[b]? = w.heap[b]? := fun b hb => E'.keep b hb (fun ⟨e, he, _⟩ => by cases he)
  rw [hvr.lit_inv] at e1
  exact ⟨_, S, _, _, e1, ⟨rfl, rfl⟩, .v _, ⟨E'.os, E'.tape, E'.output, E'.size, fun b hb _ => hk b hb, fun _ h => h, fun _ h => .inl h⟩, fun b hb => Nat.lt_of_lt_of_le (h1 b hb) E'.size,
    h2.same h1 (fun _ h => h) (fun _ h => .inl h) ⟨E'.os, E'.tape, E'.output, E'.size, fun b hb _ => hk b hb⟩, fun e he g hg => .inl ⟨e, he, hg⟩⟩
end Go.Tl
namespace Go.Proofs.Yteaoclpikdmkiaa
open Go Go.RowKit Go.Tl
set_option linter.unusedVariables false
set_option linter.unusedSimpArgs false
set_option maxRecDepth 100000
set_option maxHeartbeats 4000000
end Go.Proofs.Yteaoclpikdmkiaa

namespace Go.Tl
open Go Go.RowKit
theorem pv_makeFunc_v {P : Program} {o : Oper} {s : Slots} {g : Fn} {first caps : Array Operand} {fs cs : List Value} (ho : o.op = .makeFunc g first caps) (hf : first.toList.map (evA s) = (fs.map AV.v).map some) (hc : caps.toList.map (evA s) = (cs.map AV.v).map some) :
    PV P o s (.v (.func g fs.toArray cs.toArray)) := fun w S a hs => by
  have h1 := VRels.lits_inv (hs.evals hf)
  have h2 := VRels.lits_inv (hs.evals hc)
  refine ⟨.func g (first.map a.eval) (caps.map a.eval), fun w' => by simp [execOp, ho, Instr.makeFunc], ?_⟩
  have e1 : first.map a.eval = (first.toList.map a.eval).toArray := by rw [← Array.toList_map]
  have e2 : caps.map a.eval = (caps.toList.map a.eval).toArray := by rw [← Array.toList_map]
  rw [e1, e2, h1, h2]
  exact .v _
end Go.Tl
namespace Go.Proofs.Yteaoclpikdmkiaa
open Go Go.RowKit Go.Tl
set_option linter.unusedVariables false
set_option linter.unusedSimpArgs false
set_option maxRecDepth 100000
set_option maxHeartbeats 4000000
end Go.Proofs.Yteaoclpikdmkiaa

