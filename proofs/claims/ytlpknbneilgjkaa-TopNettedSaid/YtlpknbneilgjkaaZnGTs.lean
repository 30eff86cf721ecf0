/- Joined texts: GOb, GTy, GPa, GTs. -/
import Derived.Test.YtlpknbneilgjkaaTL
import Derived.WalkKit
import Derived.WalkSpells
import Derived.Lib.Hide
import Derived.Deep.QuietTactic
import Derived.BigQuiet
import Derived.ChangeSame
import Derived.ChangeSlices
import Derived.ChangeShapes
import Derived.Test.YtlpknbneilgjkaaGTx
import Derived.Laws.Small
import Derived.Test.YtlpknbneilgjkaaTlp
import Derived.Laws.CopyRow
section
section
section
section
namespace Go.Proofs.Ytlpknbneilgjkaa
open Go.RowKit
set_option linter.unusedVariables false

/-- cells of a slice of integers -/
def IntsAt (w : World) (a : Option Addr) (xs : List Int) : Prop :=
  ∀ k, k < xs.length → ∃ b off, a = some ⟨b, off, none⟩ ∧ w.cell? ⟨b, off + k, none⟩ = some (.int .i64 (xs.getD k 0))

def RowsAt (w : World) (a : Option Addr) (xs : List (List Int)) : Prop :=
  ∀ k, k < xs.length → ∃ b off pa pc, a = some ⟨b, off, none⟩ ∧ w.cell? ⟨b, off + k, none⟩ = some (.slice pa (xs.getD k []).length pc) ∧ IntsAt w pa (xs.getD k [])

theorem cell_below {w w' : World} {p : Addr} {v : Value} (hb : Below w.heap.size w w') (h : w.cell? p = some v) : w'.cell? p = some v :=
  (hb.cell (World.block_lt_of_cell? _ _ h)).trans h

theorem IntsAt.below {w w' : World} {a : Option Addr} {xs : List Int} (h : IntsAt w a xs) (hb : Below w.heap.size w w') : IntsAt w' a xs := fun k hk => by
  obtain ⟨b, off, e, c⟩ := h k hk
  exact ⟨b, off, e, cell_below hb c⟩
theorem RowsAt.below {w w' : World} {a : Option Addr} {xs : List (List Int)} (h : RowsAt w a xs) (hb : Below w.heap.size w w') : RowsAt w' a xs := fun k hk => by
  obtain ⟨b, off, pa, pc, e, c, d⟩ := h k hk
  exact ⟨b, off, pa, pc, e, cell_below hb c, d.below hb⟩
def inB (n lo hi : Int) : Bool := decide (lo ≤ n ∧ n ≤ hi)
theorem all_getD {α : Type} {d : α} {l : List α} {p : α → Bool} : l.all p = true ↔ ∀ k, k < l.length → p (l.getD k d) = true := by
  rw [List.all_eq_true]
  constructor
  · intro h k hk
    rw [List.getD_eq_getElem?_getD, List.getElem?_eq_getElem hk]
    exact h _ (List.getElem_mem hk)
  · intro h x hx
    obtain ⟨k, hk, rfl⟩ := List.getElem_of_mem hx
    have := h k hk
    rw [List.getD_eq_getElem?_getD, List.getElem?_eq_getElem hk] at this
    exact this
end Go.Proofs.Ytlpknbneilgjkaa
end
section
namespace Go.Proofs.Ytlpknbneilgjkaa
set_option linter.unusedVariables false

end Go.Proofs.Ytlpknbneilgjkaa
end
section
namespace Go.Proofs.Ytlpknbneilgjkaa
open Go.RowKit
set_option linter.unusedVariables false
set_option linter.unusedSimpArgs false
end Go.Proofs.Ytlpknbneilgjkaa
end
section
namespace Go.Proofs.Ytlpknbneilgjkaa
open Go.RowKit
set_option linter.unusedVariables false
end Go.Proofs.Ytlpknbneilgjkaa
end
section
namespace Go.Proofs.Ytlpknbneilgjkaa
open Go.RowKit
set_option linter.unusedVariables false
end Go.Proofs.Ytlpknbneilgjkaa
end

end
section
section
namespace Go.Proofs.Ytlpknbneilgjkaa
open Go.RowKit
set_option linter.unusedVariables false

theorem take_succ_getD {α : Type} {l : List α} {k : Nat} (d : α) (h : k < l.length) : l.take (k + 1) = l.take k ++ [l.getD k d] := by
  rw [List.take_succ_eq_append_getElem h, List.getD_eq_getElem?_getD, List.getElem?_eq_getElem h]; rfl

theorem getD_mem {α : Type} {l : List α} {k : Nat} {d : α} (h : k < l.length) : l.getD k d ∈ l := by
  rw [List.getD_eq_getElem?_getD, List.getElem?_eq_getElem h]
  exact List.getElem_mem h

end Go.Proofs.Ytlpknbneilgjkaa
end
section
namespace Go.Proofs.Ytlpknbneilgjkaa
open Go.RowKit
set_option linter.unusedVariables false

end Go.Proofs.Ytlpknbneilgjkaa
end
section
namespace Go.Proofs.Ytlpknbneilgjkaa
open Go.RowKit
set_option linter.unusedVariables false

end Go.Proofs.Ytlpknbneilgjkaa
end
section
namespace Go.Proofs.Ytlpknbneilgjkaa
open Go.RowKit
set_option linter.unusedVariables false

end Go.Proofs.Ytlpknbneilgjkaa
end
section
namespace Go.Proofs.Ytlpknbneilgjkaa
open Go.RowKit
set_option linter.unusedVariables false

end Go.Proofs.Ytlpknbneilgjkaa
end
section
namespace Go.Proofs.Ytlpknbneilgjkaa
open Go.RowKit
set_option linter.unusedVariables false

end Go.Proofs.Ytlpknbneilgjkaa
end

end
section
section
namespace Go.Proofs.Ytlpknbneilgjkaa
open Go Go.RowKit Go.Tl
set_option linter.unusedVariables false
section
variable {w : World} {S : Nat → Prop}
theorem ag_inv {cs : List AV} {v : Value} (h : VRel w S (.ag cs) v) : ∃ vs : List Value, v = .agg vs.toArray ∧ VRels w S cs vs := by
  cases h with | ag hl h => exact ⟨_, rfl, hl, h⟩
theorem rels1 {x : AV} {r : List AV} {vs : List Value} (h : VRels w S (x :: r) vs) : ∃ v us, vs = v :: us ∧ VRel w S x v ∧ VRels w S r us := by
  cases vs with
  | nil => have := h.1; simp at this
  | cons v us => exact ⟨v, us, rfl, h.2 0 x v rfl rfl, by have := h.1; simpa using this, fun j a b ha hb => h.2 (j + 1) a b (by simpa using ha) (by simpa using hb)⟩
theorem rels0 {vs : List Value} (h : VRels w S [] vs) : vs = [] := List.length_eq_zero_iff.1 h.1.symm
end
end Go.Proofs.Ytlpknbneilgjkaa
namespace Go.Proofs.Ytlpknbneilgjkaa
open Go Go.RowKit Go.Tl
set_option linter.unusedVariables false
set_option linter.unusedSimpArgs false
theorem rows_tree {α : Type} {d : α} (xs : List α) (row : α → List AV) (f : α → List Tr) (h : ∀ x, row x = (f x).map AV.ofTr) : ∀ k, k < xs.length → (xs.map row).getD k [] = ((fun k => f (xs.getD k d)) k).map AV.ofTr := fun k hk => by
  simp [List.getD_eq_getElem?_getD, hk, h]
theorem rows_step {α : Type} {d : α} {xs : List α} {k : Nat} (row : α → List AV) (hk : k < xs.length) : (xs.take (k + 1)).map row = (xs.take k).map row ++ [row (xs.getD k d)] := by
  rw [take_succ_getD d hk, List.map_append]; rfl
theorem inB_iff {n lo hi : Int} : inB n lo hi = true ↔ lo ≤ n ∧ n ≤ hi := by simp [inB]
end Go.Proofs.Ytlpknbneilgjkaa
end
section
namespace Go.Proofs.Ytlpknbneilgjkaa
open Go Go.RowKit Go.ChangeShapes
set_option linter.unusedVariables false
set_option linter.unusedSimpArgs false
theorem list_of {α : Type} [Inhabited α] {n : Nat} {R : Nat → α → Prop} (h : ∀ i, i < n → ∃ x, R i x) : ∃ l : List α, l.length = n ∧ ∀ i, i < n → R i (l.getD i default) := by
  classical
  refine ⟨(List.range n).map fun i => if hi : i < n then Classical.choose (h i hi) else default, by simp, fun i hi => ?_⟩
  have e : ((List.range n).map fun i => if hi : i < n then Classical.choose (h i hi) else default).getD i default = Classical.choose (h i hi) := by
    simp [List.getD_eq_getElem?_getD, hi]
  rw [e]
  exact Classical.choose_spec (h i hi)
section
variable {H : Type} {enc : TypeId × Value → H} {P : Program} {w : World} {base : Nat} {spare : Nat → Bool} {held : Bool}
theorem open_slice {α : Type} [Inhabited α] {t e : TypeId} {sz fuel : Nat} {cs : List Value} {x : DataW H × List MemPlace} (ht : P.underlying t = some (.slice e)) (hsz : P.cellsOf e = sz) (hpos : 0 < sz) {R : (Nat → Value) → α → Prop}
    (hR : ∀ (fuel : Nat) (cs : List Value) (y : DataW H × List MemPlace), DataW.trod enc P w base spare held fuel e cs = some y → cs.length = sz → ∃ r : α, R (fun j => cs.getD j undef) r)
    (h : DataW.trod enc P w base spare held fuel t cs = some x) :
    ∃ (a : Option Addr) (c : Nat) (l : List α), cs = [.slice a l.length c] ∧ l.length ≤ maxLen ∧ ∀ k, k < l.length → ∃ b off val, a = some ⟨b, off, none⟩ ∧ (∀ j, j < sz → w.cell? ⟨b, off + k * sz + j, none⟩ = some (val j)) ∧ R val (l.getD k default) := by
  rcases DataW.trod_slice ht h with ⟨rfl, _⟩ | ⟨a, len, cap, elems, rest, n, _, rfl, _, hb, hl, hm, hlen, hel, _, _⟩
  · exact ⟨none, 0, [], rfl, Nat.zero_le _, fun k hk => absurd hk (Nat.not_lt_zero _)⟩
  have hspot : 0 < len → a.spot = none := fun h0 => by
    have h1 := hel 0 h0
    rw [hsz, List.getElem?_eq_getElem (by omega), Option.bind_eq_some_iff] at h1
    obtain ⟨cs1, hc1, hy1⟩ := h1
    obtain ⟨_, hl1, hcell⟩ := World.cells?_some hc1
    have g0 := hcell 0 hpos
    rw [List.getElem?_eq_getElem (by omega)] at g0
    simpa [Addr.add] using World.cell?_spot g0
  have each : ∀ i, i < len → ∃ r : α, ∃ b off val, some a = some ⟨b, off, none⟩ ∧ (∀ j, j < sz → w.cell? ⟨b, off + i * sz + j, none⟩ = some (val j)) ∧ R val r := fun i hi => by
    have h1 := hel i hi
    rw [hsz, List.getElem?_eq_getElem (by omega), Option.bind_eq_some_iff] at h1
    obtain ⟨cs1, hc1, hy1⟩ := h1
    obtain ⟨_, hl1, hcell⟩ := World.cells?_some hc1
    obtain ⟨r, hr⟩ := hR n cs1 _ hy1 hl1
    obtain ⟨b, off, spot⟩ := a
    have hsp : spot = none := hspot (by omega)
    subst hsp
    refine ⟨r, b, off, fun j => cs1.getD j undef, rfl, fun j hj => ?_, hr⟩
    have g := hcell j hj
    rw [List.getElem?_eq_getElem (by omega)] at g
    have e2 : cs1.getD j undef = cs1[j]'(by omega) := by simp [List.getD_eq_getElem?_getD, show j < cs1.length by omega]
    show _ = some (cs1.getD j undef)
    rw [e2, ← g]
    congr 1
    unfold Addr.add
    split <;> split <;> simp_all
  obtain ⟨l, hll, hl2⟩ := list_of each
  exact ⟨some a, cap, l, by rw [hll], by omega, fun k hk => hl2 k (by omega)⟩
end
end Go.Proofs.Ytlpknbneilgjkaa
end
section
namespace Go.Proofs.Ytlpknbneilgjkaa
open Go Go.RowKit Go.Tl
set_option linter.unusedVariables false
section
variable {w : World}
theorem sl_in {a : Option Addr} {c sz n : Nat} {f : Nat → List Tr} (hl : ∀ k, k < n → (f k).length = sz) (hsz : 0 < sz)
    (h : ∀ k, k < n → ∃ (b off : Nat) (val : Nat → Value), a = some ⟨b, off, none⟩ ∧ (∀ j, j < sz → w.cell? ⟨b, off + k * sz + j, none⟩ = some (val j)) ∧ ∀ (j : Nat) (x : Tr), (f k)[j]? = some x → Tl.TRel w (fun b => b < w.heap.size) x (val j)) :
    Tl.TRel w (fun b => b < w.heap.size) (.sl false sz n f) (.slice a n c) := by
  have h' : ∀ k, ∃ val : Nat → Value, k < n → ∃ b off : Nat, a = some ⟨b, off, none⟩ ∧ (∀ j, j < sz → w.cell? ⟨b, off + k * sz + j, none⟩ = some (val j)) ∧ ∀ (j : Nat) (x : Tr), (f k)[j]? = some x → Tl.TRel w (fun b => b < w.heap.size) x (val j) := fun k => by
    by_cases hk : k < n
    · obtain ⟨b, off, val, h1, h2, h3⟩ := h k hk
      exact ⟨val, fun _ => ⟨b, off, h1, h2, h3⟩⟩
    · exact ⟨fun _ => undef, fun h => absurd h hk⟩
  obtain ⟨V, hV⟩ := Classical.axiomOfChoice h'
  refine .sl V (fun h => by cases h) hl (fun k hk => ?_) (fun k j x hk hx => ?_)
  · obtain ⟨b, off, h1, h2, _⟩ := hV k hk
    exact ⟨b, off, h1, World.block_lt_of_cell? _ _ (h2 0 hsz), h2⟩
  · obtain ⟨b, off, _, _, h3⟩ := hV k hk
    exact h3 j x hx
theorem rels_cons {S : Nat → Prop} {x : AV} {v : Value} {xs : List AV} {vs : List Value} (h : VRel w S x v) (hs : VRels w S xs vs) : VRels w S (x :: xs) (v :: vs) :=
  ⟨by simp [hs.1], fun j a b ha hb => by
    cases j with
    | zero => simp at ha hb; subst ha; subst hb; exact h
    | succ j => exact hs.2 j a b (by simpa using ha) (by simpa using hb)⟩
theorem rels_nil {S : Nat → Prop} : VRels w S [] [] := ⟨rfl, fun j x y h => by simp at h⟩
theorem ag_rel {S : Nat → Prop} {cs : List AV} {vs : List Value} (h : VRels w S cs vs) : VRel w S (.ag cs) (.agg vs.toArray) := .ag h.1 h.2
end
theorem pcall_calls {P : Program} {f : Nat} {args : List AV} {R : AV → Prop} (h : PCall P f args R) {w : World} {vs : List Value} (hv : VRels w (fun b => b < w.heap.size) args vs) {v : Value} (hR : ∀ r, R r → r = .v v) :
    Calls P f vs.toArray w fun e w' => e = .returned v ∧ Below w.heap.size w w' :=
  (h w _ vs (fun _ h => h) HRel.nil hv).mono fun e w' ⟨u, S', r, h', e1, ⟨hr, _⟩, hvr, hx, _⟩ => by
    have := hR r hr
    subst this
    rw [hvr.lit_inv] at e1
    exact ⟨e1, hx.os, hx.tape, hx.output, hx.size, fun b hb => hx.keep b hb (fun ⟨e, he, _⟩ => by cases he)⟩
end Go.Proofs.Ytlpknbneilgjkaa
end
section
namespace Go.Proofs.Ytlpknbneilgjkaa
open Go Go.RowKit Go.ChangeShapes Go.Tl
set_option linter.unusedVariables false
section
variable {P : Program} {H : Type} {enc : TypeId × Value → H} {w : World} {base : Nat} {spare : Nat → Bool} {held : Bool}
end
end Go.Proofs.Ytlpknbneilgjkaa
end

end
section
section
namespace Go.Proofs.Ytlpknbneilgjkaa
open Go.RowKit
set_option linter.unusedVariables false

end Go.Proofs.Ytlpknbneilgjkaa
end
section
namespace Go.Tl
open Go Go.RowKit
set_option linter.unusedVariables false
theorem acall_own {P : Program} {g : Nat} {v : Value} {E sz n : Nat} {rows : List (List AV)} {f : Nat → List Tr} {R : AV → Prop} (C : PCall P g [.t (.sl true sz n f)] R) (hn : rows.length = n) (hf : ∀ k, k < n → rows.getD k [] = (f k).map AV.ofTr) :
    ACall P g [.v v] [.rw v E sz rows] (fun r h' => R r ∧ h' = []) := fun w S vs h1 h2 h3 => by
  have he := h2.ent _ List.mem_cons_self
  have ht := row_tree he hn hf
  have hlt' : ∀ b, (S b ∨ v.ownBlock = some b) → b < w.heap.size := fun b hb => by
    rcases hb with hb | hb
    · exact h1 b hb
    · obtain ⟨xs, ho, _⟩ := he
      exact (ho.lt b hb).2
  have hvs : vs = [v] := by
    have := VRels.lits_inv (xs := [v]) h3
    exact this
  subst hvs
  refine (C w _ [v] hlt' HRel.nil (.cons (.t ht) .nil)).mono fun e w' ⟨v', S'', r, h', e1, hq, hvr, E', hlt, hr, hl⟩ => ⟨v', S'', r, h', e1, hq, hvr, ⟨E'.os, E'.tape, E'.output, E'.size, fun b hb hn => E'.keep b hb (fun ⟨e, he, _⟩ => by cases he), fun b hb => E'.stab b (.inl hb), fun b hb => ?_⟩, hlt, hr, fun e he => ?_⟩
  · rcases E'.new b hb with (h | h) | h | ⟨e, he, _⟩
    · exact .inl h
    · exact .inr (.inr ⟨_, List.mem_cons_self, h⟩)
    · exact .inr (.inl h)
    · cases he
  · rw [hq.2] at he; cases he
end Go.Tl
namespace Go.Proofs.Ytlpknbneilgjkaa
open Go Go.RowKit Go.Tl
set_option linter.unusedVariables false
end Go.Proofs.Ytlpknbneilgjkaa
end
section
namespace Go.Proofs.Ytlpknbneilgjkaa
open Go.RowKit
set_option linter.unusedVariables false
set_option linter.unusedSectionVars false
section

end
end Go.Proofs.Ytlpknbneilgjkaa
end

end
namespace Go.Tl
open Go Go.RowKit
end Go.Tl
namespace Go.Proofs.Ytlpknbneilgjkaa
open Go Go.RowKit Go.Tl
set_option linter.unusedVariables false
set_option linter.unusedSimpArgs false
set_option maxRecDepth 100000
set_option maxHeartbeats 4000000
end Go.Proofs.Ytlpknbneilgjkaa

namespace Go.Tl
open Go Go.RowKit
theorem pv_makeFunc_v {P : Program} {o : Oper} {s : Slots} {g : Fn} {first caps : Array Operand} {fs cs : List Value} (ho : o.op = .makeFunc g first caps) (hf : first.toList.map (evA s) = (fs.map AV.v).map some) (hc : caps.toList.map (evA s) = (cs.map AV.v).map some) :
    PV P o s (.v (.func g fs.toArray cs.toArray)) := fun w S a hs => by
  have h1 := VRels.lits_inv (hs.evals hf)
  have h2 := VRels.lits_inv (hs.evals hc)
  refine ⟨.func g (first.map a.eval) (caps.map a.eval), fun w' => by simp [execOp, ho, Instr.makeFunc], ?_⟩
  have e1 : first.map a.eval = (first.toList.map a.eval).toArray := by rw [← Array.toList_map]
  have e2 : caps.map a.eval = (caps.toList.map a.eval).toArray := by rw [← Array.toList_map]
  rw [e1, e2, h1, h2]
  exact .v _
end Go.Tl
namespace Go.Proofs.Ytlpknbneilgjkaa
open Go Go.RowKit Go.Tl
set_option linter.unusedVariables false
set_option linter.unusedSimpArgs false
set_option maxRecDepth 100000
set_option maxHeartbeats 4000000
end Go.Proofs.Ytlpknbneilgjkaa
end
section
namespace Go.Tl
open Go Go.RowKit
set_option linter.unusedVariables false
set_option linter.unusedSimpArgs false
end Go.Tl
end
section
namespace Go.Tl
open Go Go.RowKit
set_option linter.unusedVariables false
set_option linter.unusedSimpArgs false
section
variable {P : Program} {o : Oper} {s : Slots}
theorem pv_index (T : TT P) {t n e m q : Nat} {ag : Bool} {x y : Operand} {cs : List AV} {k : IntKind} {i : Int} {r : AV} (ho : o.op = .index t x y) (hx : evA s x = some (.ag cs)) (hy : evA s y = some (.v (.int k i)))
    (ht : f2 T.arr t = some (n, e, m)) (he : f2 T.siz e = some (m, ag)) (h0 : 0 ≤ i ∧ i < n) (hq : i.toNat * m = q) (hl : Nat.ble (q + m) cs.length = true) (h1 : ag = true ∨ m = 1) (hr : ldA ag m (cs.drop q) = r) : PV P o s r := fun w S a hs => by
  obtain ⟨j, hu, hj, hsz, hne⟩ := T.arr_at ht
  obtain ⟨j', d, hj', hjn, _, hu', hd⟩ := T.siz_at he
  have hl := Nat.le_of_ble_eq_true hl
  have hv := hs.eval hx
  have h2 := hs.lit hy
  generalize hvx : a.eval x = v at *
  cases hv with
  | @ag _ vs hlen hh =>
    have hrel : VRels w S cs vs := ⟨hlen, hh⟩
    have hL := ldA_rel (ag := ag) (n := m) (hrel.drop q) (by simp; omega) hne
    subst hr
    subst hq
    refine ⟨_, fun w' => ?_, hL⟩
    have hrun : (part e vs.toArray (i.toNat * m)).run P w' = .ok (if ag then .agg ((vs.drop (i.toNat * m)).take m).toArray else ((vs.drop (i.toNat * m)).take m).getD 0 undef) w' := by
      cases ag with
      | true => simp [part, run_isAgg' hu', hd, run_sizeOf' hj', hjn, List.extract_eq_take_drop]
      | false =>
        have hm : m = 1 := by simpa using h1
        subst hm
        have hlt : i.toNat * 1 < vs.length := by omega
        simp only [Nat.mul_one] at hlt
        simp [part, run_isAgg' hu', hd, hlt, List.getD_eq_getElem?_getD, List.getElem?_take]
    simp [execOp, ho, hvx, h2, Instr.index, asIntOf, run_underlying hu, run_sizeOf' hj, h0.1, h0.2, hsz, hrun]
theorem fill_mono {f g : Nat → Option (Nat × Nat)} (hfg : ∀ i p, f i = some p → g i = some p) : ∀ (vs : List (Nat × Value)) (cells r : Array Value), Instr.fill f cells vs = some r → Instr.fill g cells vs = some r
  | [], cells, r, h => by simpa [Instr.fill] using h
  | (i, v) :: vs, cells, r, h => by
    simp only [Instr.fill] at h ⊢
    cases hp : f i with
    | none => rw [hp] at h; simp at h
    | some p =>
      rw [hp] at h
      rw [hfg i p hp]
      simp only at h ⊢
      split at h
      · cases h
      · rename_i hc
        rw [if_neg hc]
        exact fill_mono hfg vs _ _ h
theorem pv_build_arr (T : TT P) {t : TypeId} {parts : Array (Nat × Operand)} {z : Value} {n e m : Nat} {ys : List (Nat × AV)} {cs0 cs : List AV} (ho : o.op = .build t parts) (hz : f2 T.zer t = some z) (ht : f2 T.arr t = some (n, e, m)) (hcs : z.cells.toList.map AV.v = cs0) (hp : BParts s parts.toList ys)
    (hf : FillA ((List.range n).map fun i => (i * m, m)) cs0 ys cs) : PV P o s (.ag cs) := fun w S a hs => by
  subst hcs
  have h1 := zOk_at T.zerOk hz
  obtain ⟨i, hi, hiz⟩ := Option.map_eq_some_iff.1 h1
  obtain ⟨j, hu, hj, hsz, hne⟩ := T.arr_at ht
  obtain ⟨hl, hv⟩ := hp.eq (w := w) (S := S) hs
  obtain ⟨cells, hfill, hrel⟩ := fill_rel hf z.cells _ (.lits _) hl hv
  have hfill2 := fill_mono (g := fun i => some (i * m, m)) (fun i p h => by
    simp only [List.getElem?_toArray, List.getElem?_map, Option.map_eq_some_iff] at h
    obtain ⟨q, hq, rfl⟩ := h
    have := List.getElem?_eq_some_iff.1 hq
    obtain ⟨h1, h2⟩ := this
    simp at h2
    rw [h2]) _ _ _ hfill
  refine ⟨.agg cells, fun w' => ?_, .ag (vs := cells.toList) hrel.1 hrel.2⟩
  have hmap : (parts.map fun p => (p.1, a.eval p.2)).toList = parts.toList.map fun p => (p.1, a.eval p.2) := by simp
  have hmap' : (Array.map (fun x => match x with | (i, x) => (i, a.eval x)) parts) = (parts.map fun p => (p.1, a.eval p.2)) := rfl
  simp only [execOp, ho, hmap', Instr.build, Sem.run_bind, zeroValue, typeInfo, run_program, hi, hiz, Result.andThen_ok, Sem.run_pure, run_underlying hu, run_sizeOf' hj, hsz, hmap, hfill2]
/-- what a call returned, if it is a plain value, may be looked up by later loads -/
theorem awt_lit {P : Program} {N : Nat} {ops : Array Oper} {so s : Slots} {ks h : List Ent} {Q : Exit → Slots → List Ent → Prop} {r : Go.Proofs.Ytlpknbneilgjkaa.PT} {x : Value} (d : Nat) (hd : look s d = some (.v x)) (K : AWT P N ops ((d, .v x) :: so) ks r Q s h) : AWT P N ops so ks r Q s h :=
  fun B w0 S0 w S a hs hso hks hl hsz hS hk => K B w0 S0 w S a hs (fun e y hy => by
    simp only [look] at hy
    by_cases c : Nat.beq d e = true
    · have e1 : d = e := Nat.eq_of_beq_eq_true c
      rw [c] at hy
      simp only [cond_true, Option.some.injEq, if_true] at hy
      subst hy
      subst e1
      obtain ⟨u, hu, hr⟩ := hs.slots d _ hd
      rw [hr.lit_inv] at hu
      exact ⟨x, hu, .v x⟩
    · simp only [Bool.not_eq_true] at c
      rw [c] at hy
      simp only [cond_false, Bool.false_eq_true, if_false] at hy
      exact hso e y hy) hks hl hsz hS hk
end
end Go.Tl
end
section
namespace Go.Proofs.Ytlpknbneilgjkaa
open Go Go.RowKit Go.Tl
set_option linter.unusedVariables false
set_option linter.unusedSimpArgs false
def fRows (f : Nat → Int) (m : Nat) : List (List AV) := (List.range m).map fun k => intRow (f k)
theorem fRows_len (f : Nat → Int) (m : Nat) : (fRows f m).length = m := by simp [fRows]
theorem fRows_at {f : Nat → Int} {m j : Nat} (hj : j < m) : ((fRows f m).getD j [])[0]? = some (intA (f j)) := by
  simp [fRows, List.getD_eq_getElem?_getD, hj, intRow]
theorem fRows_set {f g : Nat → Int} {m j : Nat} {v : Int} (hj : j < m) (hg : ∀ k, k < m → g k = if k = j then v else f k) : (fRows f m).set j (spA ((fRows f m).getD j []) 0 [intA v]) = fRows g m := by
  have e : spA ((fRows f m).getD j []) 0 [intA v] = intRow v := by simp [fRows, List.getD_eq_getElem?_getD, hj, intRow, spA]
  rw [e]
  refine List.ext_getElem? fun k => ?_
  rw [List.getElem?_set]
  simp only [fRows, List.length_map, List.length_range, List.getElem?_map]
  by_cases hk : k < m
  · rw [List.getElem?_range hk]
    have := hg k hk
    by_cases e : j = k
    · subst e; simp [hj, this]
    · rw [if_neg e, Option.map_some, Option.map_some, this, if_neg (fun h => e h.symm)]
  · rw [List.getElem?_eq_none (l := List.range m) (by simp; omega)]
    simp; omega
theorem fRows_tree {f : Nat → Int} {xs : List Int} {m : Nat} (h : xs = (List.range m).map f) : ∀ k, k < m → (fRows f m).getD k [] = ((fun k => [.sc (.int .i64 (xs.getD k 0))]) k : List Tr).map AV.ofTr := fun k hk => by
  subst h
  simp [fRows, List.getD_eq_getElem?_getD, hk, intRow, AV.ofTr]
end Go.Proofs.Ytlpknbneilgjkaa
end
section
namespace Go.Tl
open Go Go.RowKit
set_option linter.unusedVariables false
set_option linter.unusedSimpArgs false
section
variable {P : Program} {o : Oper} {s : Slots} {t t' : TypeId} {x z : Operand} {a b c : Int}
end
end Go.Tl
end
end
section
section
section
namespace Go.Tl
open Go Go.RowKit
set_option linter.unusedVariables false
set_option linter.unusedSimpArgs false
section
variable {P : Program} {o : Oper} {s : Slots} {h : List Ent}
section
variable {t t' : TypeId} {x z : Operand} {k : IntKind} {a b c : Int}
theorem pv_leq (ho : o.op = .binOp .leq t x z t') (hx : evA s x = some (.v (.int k a))) (hz : evA s z = some (.v (.int k b))) : PV P o s (.v (.bool (decide (a ≤ b)))) :=
  pv_bin ho hx hz (fun w => by simp [go_sem])
end
theorem pv_min2 {x y : Operand} {t1 t2 : TypeId} {k : IntKind} {a b : Int} (ho : o.op = .call { callee := .builtin .min, args := #[x, y], argTypes := #[t1, t2] }) (hx : evA s x = some (.v (.int k a))) (hy : evA s y = some (.v (.int k b))) :
    PV P o s (.v (.int k (min a b))) := fun w S a' hs =>
  ⟨_, fun w' => by
    have e : (if b < a then b else a) = min a b := by rw [Int.min_def]; split <;> split <;> omega
    simp [execOp, ho, resolve, invoke, builtin, Builtin.min_, Builtin.min2, hs.lit hx, hs.lit hy, e], .v _⟩
end
end Go.Tl
end
section
namespace Go.Proofs.Ytlpknbneilgjkaa
open Go
set_option linter.unusedVariables false
set_option linter.unusedSectionVars false
section
variable {md : Region.Mode} {ops : Array Oper}
section
variable {listed : Array Bool} {L : Nat} (hL : BitsL ops.size listed L) (hlow : Low ops.size L)
include hL hlow
end
end
end Go.Proofs.Ytlpknbneilgjkaa
namespace Go.Tl
open Go Go.RowKit
open Go.Proofs.Ytlpknbneilgjkaa (PT treeN tree_of)
set_option linter.unusedVariables false
end Go.Tl
end
section
namespace Go.Tl
open Go Go.RowKit
open Go.Proofs.Ytlpknbneilgjkaa (PT ptOk treeB kindOf isPre Closed isPre_listed getD_tf)
set_option linter.unusedVariables false
section
variable {P : Program} {ops : Array Oper} {Q : Exit → Act → World → Prop} {ro : Option Nat}
variable {md : Region.Mode} {S : World → Prop}
end
end Go.Tl
namespace Go.Tl
open Go Go.RowKit
set_option linter.unusedVariables false
section
variable {w w' : World} {S S' : Nat → Prop}
end
end Go.Tl
namespace Go.Tl
open Go Go.RowKit
set_option linter.unusedVariables false
section
variable {B : Base} {N : Nat} {w : World} {S : Nat → Prop} {s : Slots} {h : List Ent} {a : Act}
end
section
variable {P : Program}
section
variable (T : TT P)
end
end
end Go.Tl
namespace Go.Tl
open Go Go.RowKit
set_option linter.unusedVariables false
set_option linter.unusedSimpArgs false
section
variable {P : Program} {o : Oper} {s : Slots} {h : List Ent}
section
variable {t t' : TypeId} {x z : Operand} {k : IntKind} {a b c : Int}
end
theorem pv_neg {t : TypeId} {x : Operand} {k : IntKind} {a c : Int} (ho : o.op = .unOp .neg t x) (hx : evA s x = some (.v (.int k a))) (hc : k.wrap (0 - a) = c) : PV P o s (.v (.int k c)) := pv_un ho hx (fun w => by subst hc; simp [Op.unary, go_sem])
end
end Go.Tl
namespace Go.Tl
open Go Go.RowKit
set_option linter.unusedVariables false
set_option linter.unusedSimpArgs false
section
variable {P : Program} {N : Nat} {ro : Option Nat} {o : Oper} {md : Nat → Prop} {s : Slots} {h : List Ent} {K : Slots → List Ent → Prop} {Q : Exit → Slots → List Ent → Prop}
end
end Go.Tl
namespace Go.Tl
open Go Go.RowKit
set_option linter.unusedVariables false
set_option linter.unusedSimpArgs false
section
variable {P : Program} {N : Nat} {o : Oper} {md : Nat → Prop} {s : Slots} {h : List Ent} {K : Slots → List Ent → Prop}
end
end Go.Tl
namespace Go.Tl
open Go Go.RowKit
set_option linter.unusedVariables false
set_option linter.unusedSimpArgs false
section
variable {B : Base} {N : Nat} {w : World} {S : Nat → Prop} {s : Slots} {h h1 : List Ent} {a : Act}
end
theorem awl_ghost {P : Program} {N : Nat} {ops : Array Oper} {l : List Oper} {Q : Exit → Slots → List Ent → Prop} {s s' : Slots} {h h' : List Ent} (G : Ghost s h s' h') (H : AWL P N ops l Q s' h') : AWL P N ops l Q s h := fun B w S a hs => by
  obtain ⟨S', hs', _⟩ := G B N w S a hs
  exact H B w S' a hs'
section
variable {P : Program} {N : Nat} {o : Oper} {md : Nat → Prop} {s : Slots} {h h1 : List Ent} {K : Slots → List Ent → Prop}
end
end Go.Tl
namespace Go.Tl
open Go Go.RowKit
set_option linter.unusedVariables false
set_option linter.unusedSimpArgs false
section
variable {P : Program} {N : Nat} {o : Oper} {md : Nat → Prop} {s : Slots} {h h1 : List Ent} {K : Slots → List Ent → Prop}
end
end Go.Tl
namespace Go.Tl
open Go Go.RowKit
set_option linter.unusedVariables false
set_option linter.unusedSimpArgs false
section
variable {P : Program} {N : Nat} {o : Oper} {md : Nat → Prop} {s : Slots} {h h1 : List Ent} {K : Slots → List Ent → Prop}
end
end Go.Tl
namespace Go.Tl
open Go Go.RowKit
set_option linter.unusedVariables false
section
variable {P : Program} {N : Nat} {ro : Option Nat} {o : Oper} {s : Slots} {h : List Ent} {Q : Exit → Slots → List Ent → Prop} {ops : Array Oper} {rest : List Oper}
variable {K : Slots → List Ent → Prop} {id i : Nat} {I : Nat → Slots → List Ent → Prop} {n : Nat}
theorem body_n {T : TT P} {fn : Func} {R : AV → List Ent → Prop} {ys : List AV} {h' : List Ent} (h1 : resL T s h fn.results.toList ys) (h2 : SubH h' h) (h3 : R (resA ys) h') : bodyQ T fn R .normal s h := ⟨s, h, .refl, ys, h1, h', h2, h3⟩
theorem res_cell {T : TT P} {c t g n : Nat} {T' : TypeId} {cs : List AV} {ag : Bool} {y : AV} {vs : List ResultVar} {ys : List AV} (h1 : look s c = some (.v (.pointer (some ⟨g, 0, none⟩)))) (h2 : f2 T.siz t = some (n, ag)) (h3 : Mem1 (.cl g T' cs) h) (h4 : Nat.ble n cs.length = true) (h5 : (ag || Nat.beq n 1) = true) (h6 : ldA ag n cs = y) (h7 : resL T s h vs ys) :
    resL T s h (.cell c t :: vs) (y :: ys) :=
  .cons ⟨g, T', cs, n, ag, h1, h2, h3, Nat.le_of_ble_eq_true h4, by simp only [Bool.or_eq_true] at h5; exact h5.imp id Nat.eq_of_beq_eq_true, h6⟩ h7
end
section
variable {P : Program} {N : Nat} {o : Oper} {s : Slots} {h : List Ent}
end
end Go.Tl
namespace Go.Tl
open Go Go.RowKit
open Go.Proofs.Ytlpknbneilgjkaa (PT treeB)
set_option linter.unusedVariables false
section
variable {P : Program} {N : Nat} {ops : Array Oper} {so s : Slots} {ks h : List Ent} {Q : Exit → Slots → List Ent → Prop} {r : PT} {i d : Nat} {o : Oper}
end
end Go.Tl
namespace Go.Tl
open Go Go.RowKit
set_option linter.unusedVariables false
section
variable {P : Program} {N : Nat} {o : Oper} {md : Nat → Prop} {s : Slots} {h h1 : List Ent} {K : Slots → List Ent → Prop}
end
end Go.Tl
namespace Go.Tl
open Go Go.RowKit
set_option linter.unusedVariables false
set_option linter.unusedSimpArgs false
section
variable {P : Program} {mt : TypeId} {n : Nat}
variable {N : Nat} {o : Oper} {md : Nat → Prop} {s : Slots} {h : List Ent} {K : Slots → List Ent → Prop}
end
end Go.Tl
namespace Go.Tl
open Go Go.RowKit
set_option linter.unusedVariables false
set_option linter.unusedSimpArgs false
section
variable {P : Program} {N : Nat} {o : Oper} {s : Slots}
variable {md : Nat → Prop} {h : List Ent} {K : Slots → List Ent → Prop}
end
end Go.Tl
namespace Go.Tl
open Go Go.RowKit
set_option linter.unusedVariables false
section
variable {P : Program} {N : Nat} {ro : Option Nat} {o : Oper} {s : Slots} {h : List Ent} {Q : Exit → Slots → List Ent → Prop} {ops : Array Oper} {rest : List Oper}
variable {mt : TypeId} {n : Nat} {md : Nat → Prop} {K : Slots → List Ent → Prop}
end
end Go.Tl
namespace Go.Tl
open Go Go.RowKit
theorem own_cl {g : Nat} {T : TypeId} {cs : List AV} : Own [.cl g T cs] g := ⟨_, List.mem_singleton.2 rfl, rfl⟩
section
variable {P : Program} {N : Nat} {o : Oper} {s : Slots} {h h1 : List Ent} {K : Slots → List Ent → Prop} {mt n : Nat}
theorem st_store_o (T : TT P) {t n g off : Nat} {ag : Bool} {x y : Operand} {u : AV} {T' : TypeId} {cs us cs' : List AV} {h' : List Ent} (ho : o.op = .store t x y) (hx : evA s x = some (.v (.pointer (some ⟨g, off, none⟩)))) (hy : evA s y = some u)
    (ht : f2 T.siz t = some (n, ag)) (hok : okA u = true) (hu : cellsA u = us) (hone : us.all oneA = true) (hn : Nat.beq us.length n = true) (hd : o.dst = none) (hp : Repl h (.cl g T' cs) (.cl g T' cs') h') (hcs : Sp cs off us cs') (hK : K s h') : AOp P N o (Own [.cl g T' cs]) s h K := st_store T ho hx hy ht hok hu hone hn hd hp hcs own_cl hK
theorem st_appt_o (T : TT P) {t d e sz bt m n : Nat} {z v : Value} {x y : Operand} {rows news : List (List AV)} {h1 : List Ent} {cp : Bool} {f : Nat → List Tr} (ho : o.op = .call { callee := .builtin .append, args := #[x, y], argTypes := #[t, t] }) (hd : o.dst = some d) (hN : Nat.blt d N = true)
    (ht : f2 T.elm t = some (e, sz, bt)) (hz : f2 T.zer e = some z) (hzs : z.cells.size = sz) (hbt : Nat.ble bt 1000 = true) (hx : evA s x = some (.v v)) (hy : evA s y = some (.t (.sl cp sz m f)))
    (hp : Pick h (.rw v e sz rows) h1) (hone : ∀ k, k < m → ∀ u ∈ f k, oneA (AV.ofTr u) = true) (hrl : rows.length = n) (hb : n + m ≤ 1000000) (hnews : ((List.range m).map fun k => (f k).map AV.ofTr) = news)
    (hK : ∀ ad cap, (0 < m → ∃ g, ad = some ⟨g, 0, none⟩) → K ((d, .v (.slice ad (n + m) cap)) :: s) (.rw (.slice ad (n + m) cap) e sz (rows ++ news) :: h1)) : AOp P N o (Own [.rw v e sz rows]) s h K := st_appt T ho hd hN ht hz hzs hbt hx hy hp hone hrl hb own_rw hnews hK
end
end Go.Tl
namespace Go.Tl
open Go Go.RowKit
set_option linter.unusedVariables false
set_option linter.unusedSimpArgs false
section
variable {P : Program} {N : Nat} {o : Oper} {md : Nat → Prop} {s : Slots} {h : List Ent} {K : Slots → List Ent → Prop}
end
end Go.Tl
end
section
namespace Go.Tl
open Go Go.RowKit
end Go.Tl
namespace Go.Tl
open Go Go.RowKit
end Go.Tl
end
end
section
namespace Go.Tl
open Go Go.RowKit
open Go.Proofs.Ytlpknbneilgjkaa (PT)
set_option linter.unusedVariables false
def Wu (ops : Array Oper) (o : Oper) (s : Slots) : Prop := ∃ g b og t, o.guard = some (g, b) ∧ ops[g]? = some og ∧ og.dst = some t ∧ look s t = some (.v undef)
theorem wu_some {ops : Array Oper} {o : Oper} {s : Slots} {g t : Nat} {b : Bool} {og : Oper} (h : o.guard = some (g, b)) (h1 : ops[g]? = some og) (h2 : og.dst = some t) (h3 : look s t = some (.v undef)) : Wu ops o s := ⟨g, b, og, t, h, h1, h2, h3⟩
theorem Wu.unwanted {ops : Array Oper} {o : Oper} {s : Slots} {w : World} {S : Nat → Prop} {a : Act} (h : Wu ops o s) (hs : SRel w S s a.tmps) : Region.wanted o (yielded ops a.tmps) = false := by
  obtain ⟨g, b, og, t, h, h1, h2, h3⟩ := h
  obtain ⟨v, hv1, hv2⟩ := hs t _ h3
  simp [Region.wanted, h, yielded, h1, h2, hv1, hv2.lit_inv, undef]
section
variable {P : Program} {N : Nat} {ops : Array Oper} {o : Oper} {rest : List Oper} {so s : Slots} {ks h : List Ent} {Q : Exit → Slots → List Ent → Prop} {r : PT} {i d : Nat}
theorem awe_sku (ho : ops[i]? = some o) (hw : Wu ops o s) (hd : o.dst = some d) (hN : Nat.blt d N = true) (K : AWE P N ops r Q ((d, .v undef) :: s) h) : AWE P N ops (.op i 0 r) Q s h := fun B SS w S a hs => by
  refine ⟨o, undef, ho, .inr ⟨hw.unwanted hs.slots, rfl⟩, ?_⟩
  rw [hd]
  exact K B SS w S _ (hs.put (.v _) (blt_lt hN))
end
end Go.Tl
end
section
namespace Go.Tl
open Go Go.RowKit
set_option linter.unusedVariables false
open Go.Proofs.Ytlpknbneilgjkaa (PT)
end Go.Tl
end
section
namespace Go.Tl
open Go Go.RowKit
set_option linter.unusedVariables false
set_option linter.unusedSimpArgs false
end Go.Tl
end
end
section
section
namespace Go.Proofs.Ytlpknbneilgjkaa
open Go Go.RowKit Go.Tl
set_option linter.unusedVariables false
set_option linter.unusedSimpArgs false
def arrI (d : Nat → Int) (n : Nat) : List AV := (List.range n).map fun i => intA (d i)
theorem arrI_len (d : Nat → Int) (n : Nat) : (arrI d n).length = n := by simp [arrI]
theorem arrI_at {d : Nat → Int} {n k : Nat} (h : k < n) : (arrI d n)[k]? = some (intA (d k)) := by simp [arrI, h]
theorem arrI_set {d d' : Nat → Int} {n k : Nat} {v : Int} (h : k < n) (hd : ∀ q, q < n → d' q = if q = k then v else d q) : spA (arrI d n) k [intA v] = arrI d' n := by
  have e : spA (arrI d n) k [intA v] = (arrI d n).set k (intA v) := by
    unfold spA
    rw [List.set_eq_take_append_cons_drop, if_pos (by rw [arrI_len]; exact h)]
    simp
  rw [e]
  refine List.ext_getElem? fun j => ?_
  rw [List.getElem?_set]
  by_cases hj : j < n
  · rw [arrI_at (d := d') hj, hd j hj]
    by_cases c : k = j
    · subst c; rw [if_pos rfl, if_pos (by rw [arrI_len]; exact h), if_pos rfl]
    · rw [if_neg c, if_neg (fun h => c h.symm), arrI_at hj]
  · rw [List.getElem?_eq_none (l := arrI d' n) (by rw [arrI_len]; omega), List.getElem?_eq_none (l := arrI d n) (by rw [arrI_len]; omega)]
    rw [if_neg (by omega)]
end Go.Proofs.Ytlpknbneilgjkaa
namespace Go.Tl
open Go Go.RowKit Go.Proofs.Ytlpknbneilgjkaa
section
variable {P : Program} {N : Nat} {o : Oper} {md : Nat → Prop} {s : Slots} {h : List Ent} {K : Slots → List Ent → Prop}
theorem st_arrI (T : TT P) {t g k n : Nat} {x y : Operand} {v : Int} {T' : TypeId} {d d' : Nat → Int} {h' : List Ent} (ho : o.op = .store t x y) (hx : evA s x = some (.v (.pointer (some ⟨g, k, none⟩)))) (hy : evA s y = some (intA v))
    (ht : f2 T.siz t = some (1, false)) (hd : o.dst = none) (hp : Repl h (.cl g T' (arrI d n)) (.cl g T' (arrI d' n)) h') (hk : k < n) (hd' : ∀ q, q < n → d' q = if q = k then v else d q) (hmd : md g)
    (hK : K s h') : AOp P N o md s h K := aop_store T ho hx hy ht rfl rfl rfl hd hp (by rw [arrI_len]; omega) (arrI_set hk hd') hmd hK
end
end Go.Tl
end
section
namespace Go.Tl
open Go Go.RowKit
open Go.Proofs.Ytlpknbneilgjkaa
set_option linter.unusedVariables false
set_option linter.unusedSimpArgs false
/-- some of the slots -/
def sel (acc : Slots) : List Nat → Slots
  | [] => []
  | d :: ds => match look acc d with
    | some x => (d, x) :: sel acc ds
    | none => sel acc ds
theorem sel_look {acc : Slots} {e : Nat} {x : AV} : ∀ {ds : List Nat}, look (sel acc ds) e = some x → look acc e = some x ∧ e ∈ ds
  | [], h => by cases h
  | d :: ds, h => by
    simp only [sel] at h
    cases hl : look acc d with
    | none =>
      rw [hl] at h
      obtain ⟨h1, h2⟩ := sel_look h
      exact ⟨h1, List.mem_cons_of_mem _ h2⟩
    | some u =>
      rw [hl] at h
      simp only [look] at h
      by_cases c : d = e
      · subst c
        rw [Nat.beq_refl] at h
        exact ⟨by rw [hl]; exact h, List.mem_cons_self⟩
      · have hb : Nat.beq d e = false := by
          cases hb : Nat.beq d e
          · rfl
          · exact absurd (Nat.eq_of_beq_eq_true hb) c
        rw [hb] at h
        obtain ⟨h1, h2⟩ := sel_look h
        exact ⟨h1, List.mem_cons_of_mem _ h2⟩
theorem look_cons {acc : Slots} {d e : Nat} {x : AV} : look ((d, x) :: acc) e = if d = e then some x else look acc e := by
  simp only [look]
  by_cases c : d = e
  · subst c; rw [Nat.beq_refl, if_pos rfl]; rfl
  · have hb : Nat.beq d e = false := by
      cases hb : Nat.beq d e
      · rfl
      · exact absurd (Nat.eq_of_beq_eq_true hb) c
    rw [hb, if_neg c]; rfl
/-- what an operation waits for directly, or what was there -/
def directB (ops : Array Oper) (o : Oper) (d : Nat) : Bool := (ops.toList.all fun o' => o'.dst != some d) || o.after.any fun e => Region.binds .any e && (match ops[e.on]? with | some oj => oj.dst == some d | none => false)
/-- each operation waits for earlier ones alone -/
def earlyB (ops : Array Oper) : Bool := (List.range ops.size).all fun i => match ops[i]? with | some o => o.after.all fun e => Nat.blt e.on i | none => true
variable {P : Program} {N : Nat} {ops : Array Oper} {h : List Ent} {Q : Exit → Slots → List Ent → Prop}
def StepQ (P : Program) (N : Nat) (o : Oper) (si : Slots) (h : List Ent) (d : Nat) (y : AV) : Prop := AOp P N o (fun _ => False) si h (fun s2 h2 => ∃ s3, Ghost s2 h2 s3 h ∧ look s3 d = some y)
theorem stepQ_pv {o : Oper} {si : Slots} {d : Nat} {y : AV} (H : PV P o si y) (hd : o.dst = some d) (hN : Nat.blt d N = true) : StepQ P N o si h d y := aop_pv H hd (blt_lt hN) ⟨_, Ghost.refl, by rw [look_cons, if_pos rfl]⟩
theorem stepQ_lv {o : Oper} {si : Slots} {d : Nat} {y : AV} {e : Option Ent} (H : LV P o si h e y) (hd : o.dst = some d) (hN : Nat.blt d N = true) : StepQ P N o si h d y := aop_lv H hd (blt_lt hN) ⟨_, Ghost.refl, by rw [look_cons, if_pos rfl]⟩
def StepW (P : Program) (N : Nat) (ops : Array Oper) (o : Oper) (si : Slots) (h : List Ent) (d : Nat) (y : AV) : Prop := (Wt ops o si ∧ StepQ P N o si h d y) ∨ (Wf ops o si ∧ y = .v undef)
/-- the walk in the text's order -/
def ParW (P : Program) (N : Nat) (ops : Array Oper) (h : List Ent) (Q : Exit → Slots → List Ent → Prop) : List Nat → Slots → Prop
  | [], acc => Q .normal acc h
  | i :: r, acc => ∃ (o : Oper) (d : Nat) (y : AV) (ds : List Nat), ops[i]? = some o ∧ o.dst = some d ∧ Nat.blt d N = true ∧ look acc d = none ∧ ds.all (directB ops o) = true ∧ StepW P N ops o (sel acc ds) h d y ∧ ParW P N ops h Q r ((d, y) :: acc)
structure StepAt (P : Program) (N : Nat) (ops : Array Oper) (h : List Ent) (acc : Slots) (i : Nat) (o : Oper) (d : Nat) (y : AV) (si : Slots) : Prop where
  op : ops[i]? = some o
  dst : o.dst = some d
  lt : d < N
  val : look acc d = some y
  need : ∀ e x, look si e = some x → look acc e = some x ∧ directB ops o e = true
  step : StepW P N ops o si h d y
theorem par_ex : ∀ (l : List Nat) (acc : Slots), ParW P N ops h Q l acc → ∃ accF, Q .normal accF h ∧ (∀ e x, look acc e = some x → look accF e = some x) ∧
    (∀ e x, look accF e = some x → look acc e = some x ∨ ∃ i ∈ l, ∃ o, ops[i]? = some o ∧ o.dst = some e) ∧ (∀ i ∈ l, ∃ o d y si, StepAt P N ops h accF i o d y si ∧ look acc d = none) ∧
    l.Pairwise (fun i j => ∀ oi oj d, ops[i]? = some oi → ops[j]? = some oj → oi.dst = some d → oj.dst ≠ some d)
  | [], acc, H => ⟨acc, H, fun _ _ h => h, fun _ _ h => .inl h, fun _ h => (by cases h), .nil⟩
  | i :: r, acc, H => by
    obtain ⟨o, d, y, ds, h1, h2, h3, h4, h5, h6, h7⟩ := H
    obtain ⟨accF, k1, k2, k3, k4, k5⟩ := par_ex r _ h7
    have old : ∀ e x, look acc e = some x → look ((d, y) :: acc) e = some x := fun e x hx => by
      rw [look_cons, if_neg (fun c => by subst c; rw [h4] at hx; cases hx)]; exact hx
    refine ⟨accF, k1, fun e x hx => k2 e x (old e x hx), fun e x hx => ?_, fun j hj => ?_, ?_⟩
    · rcases k3 e x hx with h | ⟨j, hj, oj, e1, e2⟩
      · rw [look_cons] at h
        by_cases c : d = e
        · subst c; exact .inr ⟨i, List.mem_cons_self, o, h1, h2⟩
        · rw [if_neg c] at h; exact .inl h
      · exact .inr ⟨j, List.mem_cons_of_mem _ hj, oj, e1, e2⟩
    · rcases List.mem_cons.1 hj with rfl | hj
      · refine ⟨o, d, y, sel acc ds, ⟨h1, h2, blt_lt h3, k2 d y (by rw [look_cons, if_pos rfl]), fun e x hx => ?_, h6⟩, h4⟩
        obtain ⟨a1, a2⟩ := sel_look hx
        exact ⟨k2 e x (old e x a1), List.all_eq_true.1 h5 e a2⟩
      · obtain ⟨oj, dj, yj, sj, a1, a2⟩ := k4 j hj
        refine ⟨oj, dj, yj, sj, a1, ?_⟩
        rw [look_cons] at a2
        by_cases c : d = dj
        · rw [if_pos c] at a2; cases a2
        · rw [if_neg c] at a2; exact a2
    · refine List.pairwise_cons.2 ⟨fun j hj oi oj e e1 e2 e3 e4 => ?_, k5⟩
      obtain ⟨oj', dj, yj, sj, a1, a2⟩ := k4 j hj
      obtain rfl : oj' = oj := Option.some.inj (a1.op.symm.trans e2)
      obtain rfl : oi = o := Option.some.inj (e1.symm.trans h1)
      obtain rfl : d = e := Option.some.inj (h2.symm.trans e3)
      obtain rfl : dj = d := Option.some.inj (a1.dst.symm.trans e4)
      rw [look_cons, if_pos rfl] at a2
      cases a2
/-- what has been made, or was there -/
def Avail (ops : Array Oper) (listed : Array Bool) (e : Nat) : Prop := ∀ (i : Nat) o, ops[i]? = some o → o.dst = some e → listed.getD i false = true
theorem sim_facts {B : Base} {w : World} {S : Nat → Prop} {s s' : Slots} {h : List Ent} {a : Act} (hs : Sim B N w S s h a) (hf : SRel w S s' a.tmps) : Sim B N w S s' h a := ⟨hs.ext, hs.defs, hs.size, hf, hs.lt, hs.heap, hs.live, hs.off⟩
theorem par_run {accF : Slots} (hQ : Q .normal accF h) (hst : ∀ i, i < ops.size → ∃ o d y si, StepAt P N ops h accF i o d y si) (huniq : ∀ (i j : Nat) (oi oj : Oper) (d : Nat), ops[i]? = some oi → ops[j]? = some oj → oi.dst = some d → oj.dst = some d → i = j) (hearly : earlyB ops = true) {B : Base} :
    ∀ (fuel : Nat) (listed : Array Bool) (w : World) (S : Nat → Prop) (s' : Slots) (a : Act), listed.size = ops.size → listed.toList.count false = fuel → Sim B N w S s' h a → (∀ e x, look accF e = some x → Avail ops listed e → look s' e = some x) →
      wpAX P .any ops (postR B N Q) (fun _ => True) (fun _ => false) fuel listed a w := by
  have fin : ∀ (listed : Array Bool) (w : World) (S : Nat → Prop) (s' : Slots) (a : Act), listed.size = ops.size → Sim B N w S s' h a → (∀ e x, look accF e = some x → Avail ops listed e → look s' e = some x) → Region.ready .any ops listed = [] → postR B N Q .normal a w := fun listed w S s' a hsz hs hf hr => by
    have hall : ∀ n j, j < n → j < ops.size → listed.getD j false = true := fun n => by
      induction n with
      | zero => intro j hj; exact absurd hj (Nat.not_lt_zero _)
      | succ n ih =>
        intro j hj hjs
        by_cases c : j < n
        · exact ih j c hjs
        obtain rfl : j = n := by omega
        cases hl : listed.getD j false
        · exfalso
          have hlt : j < listed.size := by omega
          have ho : ops[j]? = some ops[j] := Array.getElem?_eq_getElem hjs
          have : j ∈ Region.ready .any ops listed := mem_ready.2 ⟨by simpa [hlt] using hl, ops[j], ho, fun e he hb => by
            have h1 := List.all_eq_true.1 hearly j (List.mem_range.2 hjs)
            rw [ho] at h1
            have h2 := Array.all_eq_true'.1 h1 e he
            have h3 : e.on < j := blt_lt h2
            exact ih e.on h3 (by omega)⟩
          rw [hr] at this
          cases this
        · rfl
    refine ⟨rfl, S, accF, h, hQ, sim_facts hs fun e x hx => hs.slots e x (hf e x hx fun i o ho hd => hall ops.size i ?_ ?_)⟩
    · exact (Array.getElem?_eq_some_iff.1 ho).1
    · exact (Array.getElem?_eq_some_iff.1 ho).1
  intro fuel
  induction fuel with
  | zero =>
    intro listed w S s' a hsz hc hs hf
    have hr : Region.ready .any ops listed = [] := by
      refine List.eq_nil_iff_forall_not_mem.2 fun i hi => ?_
      obtain ⟨h1, o, ho, _⟩ := mem_ready.1 hi
      have hlt : i < listed.size := by rw [hsz]; exact (Array.getElem?_eq_some_iff.1 ho).1
      have h2 : listed[i] = false := by simpa [hlt] using h1
      have : false ∈ listed.toList := by rw [← h2]; simp
      exact absurd (List.count_pos_iff.2 this) (by omega)
    exact ⟨hr, fin listed w S s' a hsz hs hf hr⟩
  | succ fuel ih =>
    intro listed w S s' a hsz hc hs hf
    refine ⟨fun hr => fin listed w S s' a hsz hs hf hr, fun i hi => ?_⟩
    obtain ⟨h1, o', ho', hafter⟩ := mem_ready.1 hi
    have his : i < ops.size := (Array.getElem?_eq_some_iff.1 ho').1
    have hlt : i < listed.size := by omega
    have h2 : listed[i] = false := by simpa [hlt] using h1
    obtain ⟨o, d, y, si, hA⟩ := hst i his
    obtain rfl : o' = o := Option.some.inj (ho'.symm.trans hA.op)
    -- what it needs is there
    have hneed : ∀ e x, look si e = some x → look s' e = some x := fun e x hx => by
      obtain ⟨a1, a2⟩ := hA.need e x hx
      refine hf e x a1 fun j oj hj hd => ?_
      unfold directB at a2
      rw [Bool.or_eq_true] at a2
      rcases a2 with a2 | a2
      · have hm : oj ∈ ops.toList := by simpa using Array.mem_of_getElem? hj
        have := List.all_eq_true.1 a2 oj hm
        rw [hd] at this
        simp at this
      · obtain ⟨z, hz, hb⟩ := Array.any_eq_true'.1 a2
        rw [Bool.and_eq_true] at hb
        cases hk : ops[z.on]? with
        | none => rw [hk] at hb; cases hb.2
        | some ok =>
          rw [hk] at hb
          have hd2 : ok.dst = some e := by simpa using hb.2
          have e1 := huniq j z.on oj ok e hj hk hd hd2
          rw [e1]
          exact hafter z hz hb.1
    have hsi : Sim B N w S si h a := sim_facts hs fun e x hx => hs.slots e x (hneed e x hx)
    have hsz' : (listed.setIfInBounds i true).size = ops.size := by simp [hsz]
    have hc' : (listed.setIfInBounds i true).toList.count false = fuel := by
      rw [Array.toList_setIfInBounds, List.count_set (by simpa using hlt)]
      have h3 : listed.toList[i]'(by simpa using hlt) = false := by simpa using h2
      have h4 : (false == false) = true := rfl
      have h5 : (true == false) = false := rfl
      rw [h3, h4, h5, if_pos rfl, if_neg Bool.false_ne_true]
      omega
    have next : ∀ (w' : World) (S' : Nat → Prop) (s2 : Slots) (v : Value), Sim B N w' S' s2 h (a.put (some d) v) → look s2 d = some y → (∀ b, S b → S' b) → (∀ b, S b → w'.heap[b]? = w.heap[b]?) →
        wpAX P .any ops (postR B N Q) (fun _ => True) (fun _ => false) fuel (listed.setIfInBounds i true) (a.put (some d) v) w' := fun w' S' s2 v hs2 hy hS hw => by
      refine ih _ w' S' ((d, y) :: s') _ hsz' hc' (sim_facts hs2 fun e x hx => ?_) fun e x hx hav => ?_
      · rw [look_cons] at hx
        by_cases c : d = e
        · subst c
          rw [if_pos rfl] at hx
          cases hx
          exact hs2.slots d y hy
        · rw [if_neg c] at hx
          obtain ⟨u, hu, hv⟩ := hs.slots e x hx
          refine ⟨u, ?_, hv.mono hS hw⟩
          simp only [Act.put]
          rw [Array.getElem?_setIfInBounds_ne c]
          exact hu
      · rw [look_cons]
        by_cases c : d = e
        · subst c
          rw [if_pos rfl, ← hx, hA.val]
        · rw [if_neg c]
          refine hf e x hx fun j oj hj hd => ?_
          have := hav j oj hj hd
          rwa [getD_set_ne false (fun e1 => by
            subst e1
            have : oj = o' := Option.some.inj (hj.symm.trans hA.op)
            subst this
            exact c (Option.some.inj (hA.dst.symm.trans hd)))] at this
    refine wpOX_of_if hA.op ?_
    rcases hA.step with ⟨hw, hq⟩ | ⟨hw, rfl⟩
    · rw [if_pos (hw.wanted hsi.slots)]
      refine hq B w S a hsi _ _ fun v w' S' s2 h2 hk hs2 hu => ⟨fun _ _ => trivial, ?_⟩
      obtain ⟨s3, hG, hy⟩ := hk
      obtain ⟨S3, hs3, hS3⟩ := hG B N w' S' _ hs2
      rw [hA.dst] at hs3 ⊢
      exact next w' S3 s3 v hs3 hy (fun b hb => hS3 b (hu.stab b hb)) fun b hb => hu.keep b (hs.lt b hb) (fun h => h)
    · rw [if_neg (by rw [hw.unwanted hsi.slots]; simp), hA.dst]
      exact ⟨fun _ _ => trivial, next w S ((d, .v undef) :: s') undef (hs.put (.v _) hA.lt) (by rw [look_cons, if_pos rfl]) (fun _ h => h) fun _ _ => rfl⟩
theorem parW_op {i d : Nat} {r : List Nat} {acc : Slots} {o : Oper} {y : AV} {ds : List Nat} (ho : ops[i]? = some o) (hd : o.dst = some d) (hN : Nat.blt d N = true) (hl : look acc d = none) (hds : ds.all (directB ops o) = true) (hs : StepW P N ops o (sel acc ds) h d y) (K : ParW P N ops h Q r ((d, y) :: acc)) : ParW P N ops h Q (i :: r) acc := ⟨o, d, y, ds, ho, hd, hN, hl, hds, hs, K⟩
theorem parW_nil {acc : Slots} (H : Q .normal acc h) : ParW P N ops h Q [] acc := H
theorem awp_par (T : TT P) {ro : Option Nat} {id : Nat} {s : Slots} {l : List Nat} (hl : List.range ops.size = l) (hn : ops.toList.all ndO = true) (hearly : earlyB ops = true) (H : ParW P N ops h Q l s) : AWP P N ro (.region id ops true) Q s h := fun B w S a hs => by
  subst hl
  obtain ⟨accF, k1, k2, k3, k4, k5⟩ := par_ex _ _ H
  have hst : ∀ i, i < ops.size → ∃ o d y si, StepAt P N ops h accF i o d y si := fun i hi => by
    obtain ⟨o, d, y, si, a1, _⟩ := k4 i (List.mem_range.2 hi)
    exact ⟨o, d, y, si, a1⟩
  have huniq : ∀ (i j : Nat) (oi oj : Oper) (d : Nat), ops[i]? = some oi → ops[j]? = some oj → oi.dst = some d → oj.dst = some d → i = j := fun i j oi oj d h1 h2 h3 h4 => by
    have hi : i < ops.size := (Array.getElem?_eq_some_iff.1 h1).1
    have hj : j < ops.size := (Array.getElem?_eq_some_iff.1 h2).1
    rw [List.pairwise_iff_getElem] at k5
    rcases Nat.lt_trichotomy i j with c | c | c
    · have := k5 i j (by simpa using hi) (by simpa using hj) c
      simp only [List.getElem_range] at this
      exact absurd h4 (this oi oj d h1 h2 h3)
    · exact c
    · have := k5 j i (by simpa using hj) (by simpa using hi) c
      simp only [List.getElem_range] at this
      exact absurd h3 (this oj oi d h2 h1 h4)
  refine Code.wpIn_mono postR_post (wpIn_region_any T.mixed ?_)
  have hd := hs.drew
  refine wpAX.anyIn (S := fun _ => True) (ks := fun _ => false) hn _ _ _ _ (par_run k1 hst huniq hearly ops.size (Array.replicate ops.size false) w.drew S s a (by simp) (by simp) hd fun e x hx hav => ?_)
  rcases k3 e x hx with h1 | ⟨i, hi, o, h1, h2⟩
  · exact h1
  · have := hav i o h1 h2
    have hi' : i < ops.size := (Array.getElem?_eq_some_iff.1 h1).1
    simp [hi'] at this
end Go.Tl
end
section
namespace Go.Tl
open Go Go.RowKit
set_option linter.unusedVariables false
set_option linter.unusedSimpArgs false
section
variable {P : Program} {N : Nat} {s : Slots} {h : List Ent}
end
end Go.Tl
end
end
section
section
namespace Go.Tl
open Go Go.RowKit
set_option linter.unusedVariables false
set_option linter.unusedSimpArgs false
end Go.Tl
end
section
namespace Go.Tl
open Go Go.RowKit
set_option linter.unusedVariables false
set_option linter.unusedSimpArgs false
theorem pick_comm {α : Type} {x y : α} {c c0 : List α} (h : Pick c y c0) : ∀ {c1 : List α}, Pick c0 x c1 → ∃ c', Pick c x c' ∧ Pick c' y c1 := by
  induction h with
  | here => exact fun h2 => ⟨_, .there h2, .here⟩
  | there h ih =>
    intro c1 h2
    cases h2 with
    | here => exact ⟨_, .here, h⟩
    | there h2 =>
      obtain ⟨c', k1, k2⟩ := ih h2
      exact ⟨_, .there k1, .there k2⟩
theorem SubH.pick {b c : List Ent} (h : SubH b c) : ∀ {x : Ent} {b' : List Ent}, Pick b x b' → ∃ c', Pick c x c' ∧ SubH b' c' := by
  induction h with
  | nil => intro x b' h; cases h
  | cons hp H ih =>
    intro x b' h
    cases h with
    | here => exact ⟨_, hp, H⟩
    | there h =>
      obtain ⟨c1, k1, k2⟩ := ih h
      obtain ⟨c', k3, k4⟩ := pick_comm hp k1
      exact ⟨c', k3, .cons k4 k2⟩
theorem SubH.trans {a b c : List Ent} (h : SubH a b) : SubH b c → SubH a c := by
  induction h generalizing c with
  | nil => exact fun _ => .nil
  | cons hp H ih =>
    intro h2
    obtain ⟨c', k1, k2⟩ := h2.pick hp
    exact .cons k1 (ih k2)
theorem awp_cutY {P : Program} {N : Nat} {ro : Option Nat} {id k : Nat} {x : Code} {I : Nat → List Ent → Prop} {X : Nat → Exit → List Ent → Prop} {s : Slots} {h : List Ent} (M : Slots → List Ent → Prop) (H1 : AWP P N ro x (cutQ M) s h) (H2 : ∀ s' h', M s' h' → ∃ h2, SubH h2 h' ∧ I (k + 1) h2) :
    AWP P N ro x (blockQ id (stepQ I X k)) s h :=
  awp_mono H1 fun e s1 h1 ⟨he, s', h', hs, hh, hM⟩ => by
    subst he
    obtain ⟨h2, k1, k2⟩ := H2 s' h' hM
    exact ⟨h2, k1.trans hh, k2⟩
/-- a region, within a range over a function too -/
def findQ (n : Nat) : Code → Option (Array Oper)
  | .region id ops _ => if Nat.beq id n then some ops else none
  | .seq a b => orR (findQ n a) (findQ n b)
  | .block _ a => findQ n a
  | .loop a => findQ n a
  | .scope a => findQ n a
  | .cond _ a b => orR (findQ n a) (findQ n b)
  | .rangeFunc _ _ a b => orR (findQ n a) (findQ n b)
  | _ => none
def regG (f : Func) (n : Nat) : Option (Array Oper) := match f.body with
  | some c => findQ n c
  | none => none
theorem own_con {hc h : List Ent} {L D : Nat} {r r' : Loop} {s : Slots} {g : Nat} : Own [.ob (conOb L D r s (hc ++ h))] g ↔ Own (.ob (conOb L D r' s h) :: hc) g := by
  constructor
  · rintro ⟨e, he, hg⟩
    obtain rfl := List.mem_singleton.1 he
    rcases hg with ⟨e, he, hg⟩ | hg
    · rcases List.mem_append.1 he with he | he
      · exact ⟨e, List.mem_cons_of_mem _ he, hg⟩
      · exact ⟨_, List.mem_cons_self, .inl ⟨e, he, hg⟩⟩
    · exact ⟨_, List.mem_cons_self, .inr hg⟩
  · rintro ⟨e, he, hg⟩
    refine ⟨_, List.mem_singleton.2 rfl, ?_⟩
    rcases List.mem_cons.1 he with rfl | he
    · rcases hg with ⟨e, he, hg⟩ | hg
      · exact .inl ⟨e, List.mem_append_right _ he, hg⟩
      · exact .inr hg
    · exact .inl ⟨e, List.mem_append_left _ he, hg⟩
theorem con_pack {w : World} {S : Nat → Prop} {hc h : List Ent} {L D : Nat} {r : Loop} {s : Slots} (hp : h.Pairwise Apart) (hL : ¬ Own h L) (hD : ¬ Own h D) (H : HRel w S (.ob (conOb L D r s h) :: hc)) :
    HRel w S [.ob (conOb L D r s (hc ++ h))] ∧ (hc ++ h).Pairwise Apart ∧ ¬ Own (hc ++ h) L ∧ ¬ Own (hc ++ h) D := by
  have hs := List.pairwise_cons.1 H.sep
  obtain ⟨h1, h2, h3, h4⟩ := H.ent _ List.mem_cons_self
  have hno : ∀ g, Own hc g → ¬ (Own h g ∨ g = L ∨ g = D) := fun g ⟨e, he, hg⟩ hx => hs.1 e he g hx hg
  refine ⟨⟨fun e he => ?_, fun e he g hg => ?_, List.pairwise_singleton _ _⟩, List.pairwise_append.2 ⟨hs.2, hp, fun e he e' he' g hg hg' => hno g ⟨e, he, hg⟩ (.inl ⟨e', he', hg'⟩)⟩, ?_, ?_⟩
  · obtain rfl := List.mem_singleton.1 he
    refine ⟨fun e he => ?_, h2, h3, h4⟩
    rcases List.mem_append.1 he with he | he
    · exact H.ent e (List.mem_cons_of_mem _ he)
    · exact h1 e he
  · obtain rfl := List.mem_singleton.1 he
    obtain ⟨e2, he2, hg2⟩ := own_con.1 ⟨_, List.mem_singleton.2 rfl, hg⟩
    exact H.off e2 he2 g hg2
  · rintro ⟨e, he, hg⟩
    rcases List.mem_append.1 he with he | he
    · exact hno L ⟨e, he, hg⟩ (.inr (.inl rfl))
    · exact hL ⟨e, he, hg⟩
  · rintro ⟨e, he, hg⟩
    rcases List.mem_append.1 he with he | he
    · exact hno D ⟨e, he, hg⟩ (.inr (.inr rfl))
    · exact hD ⟨e, he, hg⟩
theorem con_unpack {w : World} {S : Nat → Prop} {hc h : List Ent} {L D : Nat} {r : Loop} {s : Slots} (hp : (hc ++ h).Pairwise Apart) (hL : ¬ Own (hc ++ h) L) (hD : ¬ Own (hc ++ h) D) (H : HRel w S [.ob (conOb L D r s (hc ++ h))]) :
    HRel w S (.ob (conOb L D r s h) :: hc) ∧ h.Pairwise Apart ∧ ¬ Own h L ∧ ¬ Own h D := by
  have hs := List.pairwise_append.1 hp
  obtain ⟨h1, h2, h3, h4⟩ := H.ent _ List.mem_cons_self
  have hc' : ∀ g, Own hc g → Own (hc ++ h) g := fun g ⟨e, he, hg⟩ => ⟨e, List.mem_append_left _ he, hg⟩
  have hh' : ∀ g, Own h g → Own (hc ++ h) g := fun g ⟨e, he, hg⟩ => ⟨e, List.mem_append_right _ he, hg⟩
  refine ⟨⟨fun e he => ?_, fun e he g hg => ?_, List.pairwise_cons.2 ⟨fun e he g hg hg' => ?_, hs.1⟩⟩, hs.2.1, fun h => hL (hh' _ h), fun h => hD (hh' _ h)⟩
  · rcases List.mem_cons.1 he with rfl | he
    · exact ⟨fun e he => h1 e (List.mem_append_right _ he), h2, h3, h4⟩
    · exact h1 e (List.mem_append_left _ he)
  · obtain ⟨e2, he2, hg2⟩ := (own_con (r := r) (r' := r)).2 ⟨e, he, hg⟩
    exact H.off e2 he2 g hg2
  · rcases hg with ⟨e', he', hg⟩ | rfl | rfl
    · exact hs.2.2 e he e' he' g hg' hg
    · exact hL (hc' _ ⟨e, he, hg'⟩)
    · exact hD (hc' _ ⟨e, he, hg'⟩)
/-- what an iterator comes to that looks at what the body owns -/
def ISpecS (P : Program) (f : Nat) (args : AV → List AV) (hc : List Ent) (Pre Full : List (List AV) → Prop) : Prop :=
  ∀ (l : Nat) (C : List (List AV) → Ob → Prop) (X : List (List AV) → List Ent → Prop),
    (∀ pre y, Pre (pre ++ [y]) → ∀ o, C pre o → YCall P l y (.ob o :: hc) (fun r h' => (r = boolA true ∧ ∃ o', h' = .ob o' :: hc ∧ C (pre ++ [y]) o') ∨ (r = boolA false ∧ X (pre ++ [y]) h'))) →
    ∀ o, C [] o → ACall P f (args (.v (.func (.yield l) #[] #[]))) (.ob o :: hc) (fun r h' => (∃ L o', Full L ∧ C L o' ∧ h' = .ob o' :: hc) ∨ ∃ L, Pre L ∧ X L h')
section
variable {P : Program} {N : Nat} {s : Slots} {h : List Ent} {Q : Exit → Slots → List Ent → Prop}
theorem awp_rangeFuncS (T : TT P) {g : Operand} {ps : Array Tmp} {assign body : Code} {yc : AV} {f : Nat} {fs cs : List AV} {hc hf : List Ent} {Pre Full : List (List AV) → Prop} (I : List (List AV) → List Ent → Prop) (X : List (List AV) → Exit → List Ent → Prop)
    (hcal : evA s g = some yc) (hcl : Callee yc f fs cs) (hfn : T.fns.any (Nat.beq f) = true) (it : ISpecS P f (fun y => fs ++ [y] ++ cs) hc Pre Full) (hsub : SubH (hc ++ hf) h) (hI : I [] hf)
    (hes : ∀ pre y, Pre (pre ++ [y]) → y.length = ps.size) (hpn : ps.toList.all (fun p => Nat.blt p N) = true)
    (hround : ∀ l pre y h', Pre (pre ++ [y]) → I pre h' → AWP P N (some l) assign (fun e s1 h1 => e = .normal ∧ AWP P N (some l) body (stepQ (nx (fun h => ∃ h', h = hc ++ h' ∧ I pre h') (fun h => ∃ h', h = hc ++ h' ∧ I (pre ++ [y]) h')) (fun _ => X (pre ++ [y])) 0) s1 h1) (paramsS ps.toList y s) (hc ++ h'))
    (hdone : ∀ L h', Full L → I L h' → Q .normal s (hc ++ h')) (hret : ∀ L h', Pre L → X L .ret h' → Q .ret s h') (hexit : ∀ L id h', Pre L → X L (.exit id) h' → Q (.exit id) s h') : AWP P N none (.rangeFunc g ps assign body) Q s h := by
  refine awp_rangeFuncC T (hc := []) (hf := hc ++ hf) (Pre := Pre) (Full := Full) (fun pre h => ∃ h', h = hc ++ h' ∧ I pre h') X hcal hcl hfn ?_ hsub ⟨hf, rfl, hI⟩ hes hpn (fun l pre y h' hp hI => ?_) (fun L h' hF hI => ?_) hret hexit
  case refine_2 =>
    obtain ⟨h0, e, hI⟩ := hI
    subst e
    exact hround l pre y h0 hp hI
  case refine_3 =>
    obtain ⟨h0, e, hI⟩ := hI
    subst e
    exact hdone L h0 hF hI
  intro D L rec hy o ho
  obtain ⟨h, ⟨h0, e, hI0⟩, hp, hL, hD, rfl⟩ := ho
  subst e
  have hs := List.pairwise_append.1 hp
  have hL0 : ¬ Own h0 L := fun ⟨e, he, hg⟩ => hL ⟨e, List.mem_append_right _ he, hg⟩
  have hD0 : ¬ Own h0 D := fun ⟨e, he, hg⟩ => hD ⟨e, List.mem_append_right _ he, hg⟩
  have C := it L (fun pre o => conC L D rec s (fun _ => I pre) 0 o) (fun pre h' => ∃ o', h' = [.ob o'] ∧ conX L D rec s (fun _ => X pre) 0 o') (fun pre y hpre o hC w S vs hlt hrel hvs => by
    obtain ⟨h1, hI1, hp1, hL1, hD1, rfl⟩ := hC
    obtain ⟨hrel2, k1, k2, k3⟩ := con_pack hp1 hL1 hD1 hrel
    obtain ⟨fn, tmps, assign', body', e, hr⟩ := hy pre y hpre _ ⟨hc ++ h1, ⟨h1, rfl, hI1⟩, k1, k2, k3, rfl⟩ w S vs hlt hrel2 hvs
    refine ⟨fn, tmps, assign', body', e, hr.mono fun e w' ⟨v, S', r, h', e1, ⟨o', eh, hq⟩, hvr, E, hlt', hr', hl'⟩ => ?_⟩
    subst eh
    have E' : Ext ⟨w, S, Own (.ob (conOb L D (rec .ready none) s h1) :: hc)⟩ w' S' := ⟨E.os, E.tape, E.output, E.size, fun b hb hn => E.keep b hb (fun ho => hn (own_con.1 ho)), E.stab, fun b hb => by
      rcases E.new b hb with h | h | h
      · exact .inl h
      · exact .inr (.inl h)
      · exact .inr (.inr (own_con.1 h))⟩
    rcases hq with ⟨rfl, h2, ⟨h3, eh, hI3⟩, q1, q2, q3, rfl⟩ | ⟨rfl, hX⟩
    · subst eh
      obtain ⟨hr2, p1, p2, p3⟩ := con_unpack q1 q2 q3 hr'
      refine ⟨v, S', _, _, e1, .inl ⟨rfl, _, rfl, h3, hI3, p1, p2, p3, rfl⟩, hvr, E', hlt', hr2, fun e he g hg => ?_⟩
      obtain ⟨e2, he2, hg2⟩ := (own_con (r := rec .ready none) (r' := rec .ready none)).2 ⟨e, he, hg⟩
      rcases hl' e2 he2 g hg2 with h | h
      · exact .inl (own_con.1 h)
      · exact .inr h
    · refine ⟨v, S', _, _, e1, .inr ⟨rfl, o', rfl, hX⟩, hvr, E', hlt', hr', fun e he g hg => ?_⟩
      rcases hl' e he g hg with h | h
      · exact .inl (own_con.1 h)
      · exact .inr h) _ ⟨h0, hI0, hs.2.1, hL0, hD0, rfl⟩
  intro w S vs hlt hrel hvs
  obtain ⟨hrel2, _⟩ := con_unpack hp hL hD hrel
  refine (C w S vs hlt hrel2 hvs).mono fun e w' ⟨v, S', r, h', e1, hq, hvr, E, hlt', hr', hl'⟩ => ?_
  have E' : Ext ⟨w, S, Own [.ob (conOb L D (rec .ready none) s (hc ++ h0))]⟩ w' S' := ⟨E.os, E.tape, E.output, E.size, fun b hb hn => E.keep b hb (fun ho => hn (own_con.2 ho)), E.stab, fun b hb => by
    rcases E.new b hb with h | h | h
    · exact .inl h
    · exact .inr (.inl h)
    · exact .inr (.inr (own_con.2 h))⟩
  rcases hq with ⟨L', o', hF, ⟨h3, hI3, q1, q2, q3, rfl⟩, rfl⟩ | ⟨L', hPr, o', rfl, hX⟩
  · obtain ⟨hr2, p1, p2, p3⟩ := con_pack q1 q2 q3 hr'
    refine ⟨v, S', r, _, e1, ⟨_, rfl, .inl ⟨L', hF, _, ⟨h3, rfl, hI3⟩, p1, p2, p3, rfl⟩⟩, hvr, E', hlt', hr2, fun e he g hg => ?_⟩
    obtain ⟨e2, he2, hg2⟩ := own_con.1 ⟨e, he, hg⟩
    rcases hl' e2 he2 g hg2 with h | h
    · exact .inl (own_con.2 h)
    · exact .inr h
  · refine ⟨v, S', r, _, e1, ⟨o', rfl, .inr ⟨L', hPr, hX⟩⟩, hvr, E', hlt', hr', fun e he g hg => ?_⟩
    rcases hl' e he g hg with h | h
    · exact .inl (own_con.2 h)
    · exact .inr h
end
end Go.Tl
end
section
namespace Go.Tl
open Go Go.RowKit
set_option linter.unusedVariables false
set_option linter.unusedSimpArgs false
theorem flat_ones {α : Type} : ∀ l : List α, (l.map fun x => [x]).flatten = l
  | [] => rfl
  | x :: l => by simp [flat_ones l]
section
variable {P : Program} {N : Nat} {o : Oper} {md : Nat → Prop} {s : Slots} {h h1 : List Ent} {K : Slots → List Ent → Prop}
theorem aop_copy_ca (T : TT P) {t t' d e bt n m c c2 g g2 : Nat} {x y : Operand} {T2 : TypeId} {cs2 : List AV} {rows : List (List AV)} {h' : List Ent} (ho : o.op = .call { callee := .builtin .copy, args := #[x, y], argTypes := #[t, t'] }) (hd : o.dst = some d) (hN : Nat.blt d N = true) (ht : f2 T.elm t = some (e, 1, bt))
    (hx : evA s x = some (.v (.slice (some ⟨g, 0, none⟩) n c))) (hy : evA s y = some (.v (.slice (some ⟨g2, 0, none⟩) m c2))) (hm2 : Mem1 (.cl g2 T2 cs2) h) (hp : Repl h (.rw (.slice (some ⟨g, 0, none⟩) n c) e 1 rows) (.rw (.slice (some ⟨g, 0, none⟩) n c) e 1 ((cs2.take n).map fun x => [x])) h') (hn : rows.length = n) (hl2 : cs2.length = m) (hnm : n ≤ m) (hone : cs2.all oneA = true)
    (hmd : md g) (hK : K ((d, intA (n : Nat)) :: s) h') : AOp P N o md s h K := fun B w S a hs Kr Qr hk => by
  obtain ⟨j, hund, hj, hjs, hjb, hne⟩ := T.elm_at ht
  have hmem : Ent.rw (.slice (some ⟨g, 0, none⟩) n c) e 1 rows ∈ h := by obtain ⟨p, q, rfl, _⟩ := hp.split; simp
  obtain ⟨xs, hown, hr, hlr⟩ := hs.heap.ent _ hmem
  obtain ⟨vs2, hvs2, hr2⟩ := hs.heap.ent _ hm2.mem
  rcases hown.2 with ⟨e0, _⟩ | ⟨g', cap, cur, e0, hb0, hg, hcap, hml, hsz, htk⟩
  · simp at e0
  simp at e0
  obtain ⟨rfl, hlen, rfl⟩ := e0
  subst hn
  have hv2l : vs2.length = m := by rw [← hr2.1]; exact hl2
  have hrt : VRels w S (cs2.take rows.length) (vs2.take rows.length) := hr2.take _
  have hones := ones_rel hrt (fun cc hcc => List.all_eq_true.1 hone cc (List.mem_of_mem_take hcc))
  have htl : (vs2.take rows.length).length = rows.length := by rw [List.length_take]; omega
  have hrun0 := run_copy_row (P := P) w t t' o.type e g 0 rows.length c ⟨g2, 0, none⟩ m c2 cur e (vs2.take rows.length) hund (by rw [hj]; simp [hjs]) hg (by rw [htl]; exact (Nat.min_eq_right hnm).symm) (fun q u hq => by
    have hq2 : q < rows.length := by
      rcases Nat.lt_or_ge q rows.length with h | h
      · exact h
      · rw [List.getElem?_eq_none (by omega)] at hq; cases hq
    rw [List.getElem?_take_of_lt hq2] at hq
    rw [Addr.add_lit]
    simp [World.cell?, hvs2, hq]) (by rw [htl, hsz]; omega) hones
  rw [htl] at hrun0
  have hrun : (execOp a.eval o).run P w = .ok (.value (.int .i64 (rows.length : Int))) (w.setRow g (cur.toList.take 0 ++ vs2.take rows.length ++ cur.toList.drop (0 + rows.length)).toArray) := by
    simp only [execOp, ho, resolve, List.map_toArray, List.map_cons, List.map_nil, hs.slots.lit hx, hs.slots.lit hy]
    simp [invoke, builtin, hrun0, goInt, IntKind.wrap_i64]
  unfold wpX
  rw [hd] at hk
  rw [hrun, Oper.uponIn_value, hd]
  generalize hnew : (cur.toList.take 0 ++ vs2.take rows.length ++ cur.toList.drop (0 + rows.length)).toArray = new at *
  have hgw := grown_setRow w g new
  have hnl : new.toList = vs2.take rows.length ++ cur.toList.drop rows.length := by rw [← hnew]; simp
  have hrl : ((cs2.take rows.length).map fun x => [x]).length = rows.length := by rw [List.length_map, List.length_take]; omega
  have hcs : ∀ b, S b → (w.setRow g new).heap[b]? = w.heap[b]? := fun b hb => setRow_other w g b _ (fun e => hs.heap.off _ hmem g rfl (by rw [← e]; exact hb))
  refine hk _ _ S _ _ hK ((hs.repl hp (.of hgw (by simp [Ent.blk, Value.ownBlock])) ⟨vs2.take rows.length, ⟨?_, .inr ⟨g, c, new, by rw [hrl], hb0, setRow_heap w g _ _ e _ hg, by rw [hrl]; exact hcap, hml, ?_, ?_⟩⟩, ?_, ?_⟩ (fun g' hg' => .inl hg')).put (.v _) (blt_lt hN)) ⟨by simp, fun b hb hnb => setRow_other w g b _ (fun e => hnb (by rw [e]; exact hmd)), fun _ h => h⟩
  · rw [hrl, htl, Nat.mul_one]
  · have k1 : cur.toList.length = cur.size := Array.length_toList
    have k2 : new.toList.length = rows.length + (cur.toList.length - rows.length) := by rw [hnl, List.length_append, htl, List.length_drop]
    have k3 : new.toList.length = new.size := Array.length_toList
    omega
  · rw [hnl, hrl, Nat.mul_one, List.take_append_of_le_length (by omega), List.take_of_length_le (by omega)]
  · rw [flat_ones]
    exact hrt.mono (fun _ h => h) hcs
  · intro r hr'
    obtain ⟨x, _, rfl⟩ := List.mem_map.1 hr'
    rfl
end
end Go.Tl
end
end
