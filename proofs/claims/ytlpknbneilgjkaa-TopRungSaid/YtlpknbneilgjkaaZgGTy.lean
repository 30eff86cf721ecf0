/- Joined texts: GOb, GTy. -/
import Derived.Test.YtlpknbneilgjkaaTL
import Derived.WalkKit
import Derived.WalkSpells
import Derived.Lib.Hide
import Derived.Deep.QuietTactic
import Derived.BigQuiet
import Derived.ChangeSame
import Derived.ChangeSlices
import Derived.ChangeShapes
import Derived.Test.YtlpknbneilgjkaaGTx
import Derived.Laws.Small
section
section
section
section
namespace Go.Proofs.Ytlpknbneilgjkaa
open Go.RowKit
set_option linter.unusedVariables false

/-- cells of a slice of integers -/
def IntsAt (w : World) (a : Option Addr) (xs : List Int) : Prop :=
  ∀ k, k < xs.length → ∃ b off, a = some ⟨b, off, none⟩ ∧ w.cell? ⟨b, off + k, none⟩ = some (.int .i64 (xs.getD k 0))

def RowsAt (w : World) (a : Option Addr) (xs : List (List Int)) : Prop :=
  ∀ k, k < xs.length → ∃ b off pa pc, a = some ⟨b, off, none⟩ ∧ w.cell? ⟨b, off + k, none⟩ = some (.slice pa (xs.getD k []).length pc) ∧ IntsAt w pa (xs.getD k [])

theorem cell_below {w w' : World} {p : Addr} {v : Value} (hb : Below w.heap.size w w') (h : w.cell? p = some v) : w'.cell? p = some v :=
  (hb.cell (World.block_lt_of_cell? _ _ h)).trans h

theorem IntsAt.below {w w' : World} {a : Option Addr} {xs : List Int} (h : IntsAt w a xs) (hb : Below w.heap.size w w') : IntsAt w' a xs := fun k hk => by
  obtain ⟨b, off, e, c⟩ := h k hk
  exact ⟨b, off, e, cell_below hb c⟩
theorem RowsAt.below {w w' : World} {a : Option Addr} {xs : List (List Int)} (h : RowsAt w a xs) (hb : Below w.heap.size w w') : RowsAt w' a xs := fun k hk => by
  obtain ⟨b, off, pa, pc, e, c, d⟩ := h k hk
  exact ⟨b, off, pa, pc, e, cell_below hb c, d.below hb⟩
def inB (n lo hi : Int) : Bool := decide (lo ≤ n ∧ n ≤ hi)
theorem all_getD {α : Type} {d : α} {l : List α} {p : α → Bool} : l.all p = true ↔ ∀ k, k < l.length → p (l.getD k d) = true := by
  rw [List.all_eq_true]
  constructor
  · intro h k hk
    rw [List.getD_eq_getElem?_getD, List.getElem?_eq_getElem hk]
    exact h _ (List.getElem_mem hk)
  · intro h x hx
    obtain ⟨k, hk, rfl⟩ := List.getElem_of_mem hx
    have := h k hk
    rw [List.getD_eq_getElem?_getD, List.getElem?_eq_getElem hk] at this
    exact this
end Go.Proofs.Ytlpknbneilgjkaa
end
section
namespace Go.Proofs.Ytlpknbneilgjkaa
set_option linter.unusedVariables false

end Go.Proofs.Ytlpknbneilgjkaa
end
section
namespace Go.Proofs.Ytlpknbneilgjkaa
open Go.RowKit
set_option linter.unusedVariables false
set_option linter.unusedSimpArgs false
end Go.Proofs.Ytlpknbneilgjkaa
end
section
namespace Go.Proofs.Ytlpknbneilgjkaa
open Go.RowKit
set_option linter.unusedVariables false
end Go.Proofs.Ytlpknbneilgjkaa
end
section
namespace Go.Proofs.Ytlpknbneilgjkaa
open Go.RowKit
set_option linter.unusedVariables false
end Go.Proofs.Ytlpknbneilgjkaa
end

end
section
section
namespace Go.Proofs.Ytlpknbneilgjkaa
open Go.RowKit
set_option linter.unusedVariables false

theorem take_succ_getD {α : Type} {l : List α} {k : Nat} (d : α) (h : k < l.length) : l.take (k + 1) = l.take k ++ [l.getD k d] := by
  rw [List.take_succ_eq_append_getElem h, List.getD_eq_getElem?_getD, List.getElem?_eq_getElem h]; rfl

theorem getD_mem {α : Type} {l : List α} {k : Nat} {d : α} (h : k < l.length) : l.getD k d ∈ l := by
  rw [List.getD_eq_getElem?_getD, List.getElem?_eq_getElem h]
  exact List.getElem_mem h

end Go.Proofs.Ytlpknbneilgjkaa
end
section
namespace Go.Proofs.Ytlpknbneilgjkaa
open Go.RowKit
set_option linter.unusedVariables false

end Go.Proofs.Ytlpknbneilgjkaa
end
section
namespace Go.Proofs.Ytlpknbneilgjkaa
open Go.RowKit
set_option linter.unusedVariables false

end Go.Proofs.Ytlpknbneilgjkaa
end
section
namespace Go.Proofs.Ytlpknbneilgjkaa
open Go.RowKit
set_option linter.unusedVariables false

end Go.Proofs.Ytlpknbneilgjkaa
end
section
namespace Go.Proofs.Ytlpknbneilgjkaa
open Go.RowKit
set_option linter.unusedVariables false

end Go.Proofs.Ytlpknbneilgjkaa
end
section
namespace Go.Proofs.Ytlpknbneilgjkaa
open Go.RowKit
set_option linter.unusedVariables false

end Go.Proofs.Ytlpknbneilgjkaa
end

end
section
section
namespace Go.Proofs.Ytlpknbneilgjkaa
open Go Go.RowKit Go.Tl
set_option linter.unusedVariables false
section
variable {w : World} {S : Nat → Prop}
theorem ag_inv {cs : List AV} {v : Value} (h : VRel w S (.ag cs) v) : ∃ vs : List Value, v = .agg vs.toArray ∧ VRels w S cs vs := by
  cases h with | ag hl h => exact ⟨_, rfl, hl, h⟩
theorem rels1 {x : AV} {r : List AV} {vs : List Value} (h : VRels w S (x :: r) vs) : ∃ v us, vs = v :: us ∧ VRel w S x v ∧ VRels w S r us := by
  cases vs with
  | nil => have := h.1; simp at this
  | cons v us => exact ⟨v, us, rfl, h.2 0 x v rfl rfl, by have := h.1; simpa using this, fun j a b ha hb => h.2 (j + 1) a b (by simpa using ha) (by simpa using hb)⟩
theorem rels0 {vs : List Value} (h : VRels w S [] vs) : vs = [] := List.length_eq_zero_iff.1 h.1.symm
end
end Go.Proofs.Ytlpknbneilgjkaa
namespace Go.Proofs.Ytlpknbneilgjkaa
open Go Go.RowKit Go.Tl
set_option linter.unusedVariables false
set_option linter.unusedSimpArgs false
theorem rows_tree {α : Type} {d : α} (xs : List α) (row : α → List AV) (f : α → List Tr) (h : ∀ x, row x = (f x).map AV.ofTr) : ∀ k, k < xs.length → (xs.map row).getD k [] = ((fun k => f (xs.getD k d)) k).map AV.ofTr := fun k hk => by
  simp [List.getD_eq_getElem?_getD, hk, h]
theorem rows_step {α : Type} {d : α} {xs : List α} {k : Nat} (row : α → List AV) (hk : k < xs.length) : (xs.take (k + 1)).map row = (xs.take k).map row ++ [row (xs.getD k d)] := by
  rw [take_succ_getD d hk, List.map_append]; rfl
theorem inB_iff {n lo hi : Int} : inB n lo hi = true ↔ lo ≤ n ∧ n ≤ hi := by simp [inB]
end Go.Proofs.Ytlpknbneilgjkaa
end
section
namespace Go.Proofs.Ytlpknbneilgjkaa
open Go Go.RowKit Go.ChangeShapes
set_option linter.unusedVariables false
set_option linter.unusedSimpArgs false
theorem list_of {α : Type} [Inhabited α] {n : Nat} {R : Nat → α → Prop} (h : ∀ i, i < n → ∃ x, R i x) : ∃ l : List α, l.length = n ∧ ∀ i, i < n → R i (l.getD i default) := by
  classical
  refine ⟨(List.range n).map fun i => if hi : i < n then Classical.choose (h i hi) else default, by simp, fun i hi => ?_⟩
  have e : ((List.range n).map fun i => if hi : i < n then Classical.choose (h i hi) else default).getD i default = Classical.choose (h i hi) := by
    simp [List.getD_eq_getElem?_getD, hi]
  rw [e]
  exact Classical.choose_spec (h i hi)
section
variable {H : Type} {enc : TypeId × Value → H} {P : Program} {w : World} {base : Nat} {spare : Nat → Bool} {held : Bool}
theorem open_slice {α : Type} [Inhabited α] {t e : TypeId} {sz fuel : Nat} {cs : List Value} {x : DataW H × List MemPlace} (ht : P.underlying t = some (.slice e)) (hsz : P.cellsOf e = sz) (hpos : 0 < sz) {R : (Nat → Value) → α → Prop}
    (hR : ∀ (fuel : Nat) (cs : List Value) (y : DataW H × List MemPlace), DataW.trod enc P w base spare held fuel e cs = some y → cs.length = sz → ∃ r : α, R (fun j => cs.getD j undef) r)
    (h : DataW.trod enc P w base spare held fuel t cs = some x) :
    ∃ (a : Option Addr) (c : Nat) (l : List α), cs = [.slice a l.length c] ∧ l.length ≤ maxLen ∧ ∀ k, k < l.length → ∃ b off val, a = some ⟨b, off, none⟩ ∧ (∀ j, j < sz → w.cell? ⟨b, off + k * sz + j, none⟩ = some (val j)) ∧ R val (l.getD k default) := by
  rcases DataW.trod_slice ht h with ⟨rfl, _⟩ | ⟨a, len, cap, elems, rest, n, _, rfl, _, hb, hl, hm, hlen, hel, _, _⟩
  · exact ⟨none, 0, [], rfl, Nat.zero_le _, fun k hk => absurd hk (Nat.not_lt_zero _)⟩
  have hspot : 0 < len → a.spot = none := fun h0 => by
    have h1 := hel 0 h0
    rw [hsz, List.getElem?_eq_getElem (by omega), Option.bind_eq_some_iff] at h1
    obtain ⟨cs1, hc1, hy1⟩ := h1
    obtain ⟨_, hl1, hcell⟩ := World.cells?_some hc1
    have g0 := hcell 0 hpos
    rw [List.getElem?_eq_getElem (by omega)] at g0
    simpa [Addr.add] using World.cell?_spot g0
  have each : ∀ i, i < len → ∃ r : α, ∃ b off val, some a = some ⟨b, off, none⟩ ∧ (∀ j, j < sz → w.cell? ⟨b, off + i * sz + j, none⟩ = some (val j)) ∧ R val r := fun i hi => by
    have h1 := hel i hi
    rw [hsz, List.getElem?_eq_getElem (by omega), Option.bind_eq_some_iff] at h1
    obtain ⟨cs1, hc1, hy1⟩ := h1
    obtain ⟨_, hl1, hcell⟩ := World.cells?_some hc1
    obtain ⟨r, hr⟩ := hR n cs1 _ hy1 hl1
    obtain ⟨b, off, spot⟩ := a
    have hsp : spot = none := hspot (by omega)
    subst hsp
    refine ⟨r, b, off, fun j => cs1.getD j undef, rfl, fun j hj => ?_, hr⟩
    have g := hcell j hj
    rw [List.getElem?_eq_getElem (by omega)] at g
    have e2 : cs1.getD j undef = cs1[j]'(by omega) := by simp [List.getD_eq_getElem?_getD, show j < cs1.length by omega]
    show _ = some (cs1.getD j undef)
    rw [e2, ← g]
    congr 1
    unfold Addr.add
    split <;> split <;> simp_all
  obtain ⟨l, hll, hl2⟩ := list_of each
  exact ⟨some a, cap, l, by rw [hll], by omega, fun k hk => hl2 k (by omega)⟩
end
end Go.Proofs.Ytlpknbneilgjkaa
end
section
namespace Go.Proofs.Ytlpknbneilgjkaa
open Go Go.RowKit Go.Tl
set_option linter.unusedVariables false
section
variable {w : World}
theorem sl_in {a : Option Addr} {c sz n : Nat} {f : Nat → List Tr} (hl : ∀ k, k < n → (f k).length = sz) (hsz : 0 < sz)
    (h : ∀ k, k < n → ∃ (b off : Nat) (val : Nat → Value), a = some ⟨b, off, none⟩ ∧ (∀ j, j < sz → w.cell? ⟨b, off + k * sz + j, none⟩ = some (val j)) ∧ ∀ (j : Nat) (x : Tr), (f k)[j]? = some x → Tl.TRel w (fun b => b < w.heap.size) x (val j)) :
    Tl.TRel w (fun b => b < w.heap.size) (.sl false sz n f) (.slice a n c) := by
  have h' : ∀ k, ∃ val : Nat → Value, k < n → ∃ b off : Nat, a = some ⟨b, off, none⟩ ∧ (∀ j, j < sz → w.cell? ⟨b, off + k * sz + j, none⟩ = some (val j)) ∧ ∀ (j : Nat) (x : Tr), (f k)[j]? = some x → Tl.TRel w (fun b => b < w.heap.size) x (val j) := fun k => by
    by_cases hk : k < n
    · obtain ⟨b, off, val, h1, h2, h3⟩ := h k hk
      exact ⟨val, fun _ => ⟨b, off, h1, h2, h3⟩⟩
    · exact ⟨fun _ => undef, fun h => absurd h hk⟩
  obtain ⟨V, hV⟩ := Classical.axiomOfChoice h'
  refine .sl V (fun h => by cases h) hl (fun k hk => ?_) (fun k j x hk hx => ?_)
  · obtain ⟨b, off, h1, h2, _⟩ := hV k hk
    exact ⟨b, off, h1, World.block_lt_of_cell? _ _ (h2 0 hsz), h2⟩
  · obtain ⟨b, off, _, _, h3⟩ := hV k hk
    exact h3 j x hx
theorem rels_cons {S : Nat → Prop} {x : AV} {v : Value} {xs : List AV} {vs : List Value} (h : VRel w S x v) (hs : VRels w S xs vs) : VRels w S (x :: xs) (v :: vs) :=
  ⟨by simp [hs.1], fun j a b ha hb => by
    cases j with
    | zero => simp at ha hb; subst ha; subst hb; exact h
    | succ j => exact hs.2 j a b (by simpa using ha) (by simpa using hb)⟩
theorem rels_nil {S : Nat → Prop} : VRels w S [] [] := ⟨rfl, fun j x y h => by simp at h⟩
theorem ag_rel {S : Nat → Prop} {cs : List AV} {vs : List Value} (h : VRels w S cs vs) : VRel w S (.ag cs) (.agg vs.toArray) := .ag h.1 h.2
end
theorem pcall_calls {P : Program} {f : Nat} {args : List AV} {R : AV → Prop} (h : PCall P f args R) {w : World} {vs : List Value} (hv : VRels w (fun b => b < w.heap.size) args vs) {v : Value} (hR : ∀ r, R r → r = .v v) :
    Calls P f vs.toArray w fun e w' => e = .returned v ∧ Below w.heap.size w w' :=
  (h w _ vs (fun _ h => h) HRel.nil hv).mono fun e w' ⟨u, S', r, h', e1, ⟨hr, _⟩, hvr, hx, _⟩ => by
    have := hR r hr
    subst this
    rw [hvr.lit_inv] at e1
    exact ⟨e1, hx.os, hx.tape, hx.output, hx.size, fun b hb => hx.keep b hb (fun ⟨e, he, _⟩ => by cases he)⟩
end Go.Proofs.Ytlpknbneilgjkaa
end
section
namespace Go.Proofs.Ytlpknbneilgjkaa
open Go Go.RowKit Go.ChangeShapes Go.Tl
set_option linter.unusedVariables false
section
variable {P : Program} {H : Type} {enc : TypeId × Value → H} {w : World} {base : Nat} {spare : Nat → Bool} {held : Bool}
end
end Go.Proofs.Ytlpknbneilgjkaa
end

end
section
section
namespace Go.Proofs.Ytlpknbneilgjkaa
open Go.RowKit
set_option linter.unusedVariables false

end Go.Proofs.Ytlpknbneilgjkaa
end
section
namespace Go.Tl
open Go Go.RowKit
set_option linter.unusedVariables false
theorem acall_own {P : Program} {g : Nat} {v : Value} {E sz n : Nat} {rows : List (List AV)} {f : Nat → List Tr} {R : AV → Prop} (C : PCall P g [.t (.sl true sz n f)] R) (hn : rows.length = n) (hf : ∀ k, k < n → rows.getD k [] = (f k).map AV.ofTr) :
    ACall P g [.v v] [.rw v E sz rows] (fun r h' => R r ∧ h' = []) := fun w S vs h1 h2 h3 => by
  have he := h2.ent _ List.mem_cons_self
  have ht := row_tree he hn hf
  have hlt' : ∀ b, (S b ∨ v.ownBlock = some b) → b < w.heap.size := fun b hb => by
    rcases hb with hb | hb
    · exact h1 b hb
    · obtain ⟨xs, ho, _⟩ := he
      exact (ho.lt b hb).2
  have hvs : vs = [v] := by
    have := VRels.lits_inv (xs := [v]) h3
    exact this
  subst hvs
  refine (C w _ [v] hlt' HRel.nil (.cons (.t ht) .nil)).mono fun e w' ⟨v', S'', r, h', e1, hq, hvr, E', hlt, hr, hl⟩ => ⟨v', S'', r, h', e1, hq, hvr, ⟨E'.os, E'.tape, E'.output, E'.size, fun b hb hn => E'.keep b hb (fun ⟨e, he, _⟩ => by cases he), fun b hb => E'.stab b (.inl hb), fun b hb => ?_⟩, hlt, hr, fun e he => ?_⟩
  · rcases E'.new b hb with (h | h) | h | ⟨e, he, _⟩
    · exact .inl h
    · exact .inr (.inr ⟨_, List.mem_cons_self, h⟩)
    · exact .inr (.inl h)
    · cases he
  · rw [hq.2] at he; cases he
end Go.Tl
namespace Go.Proofs.Ytlpknbneilgjkaa
open Go Go.RowKit Go.Tl
set_option linter.unusedVariables false
end Go.Proofs.Ytlpknbneilgjkaa
end
section
namespace Go.Proofs.Ytlpknbneilgjkaa
open Go.RowKit
set_option linter.unusedVariables false
set_option linter.unusedSectionVars false
section

end
end Go.Proofs.Ytlpknbneilgjkaa
end

end
namespace Go.Tl
open Go Go.RowKit
end Go.Tl
namespace Go.Proofs.Ytlpknbneilgjkaa
open Go Go.RowKit Go.Tl
set_option linter.unusedVariables false
set_option linter.unusedSimpArgs false
set_option maxRecDepth 100000
set_option maxHeartbeats 4000000
end Go.Proofs.Ytlpknbneilgjkaa

namespace Go.Tl
open Go Go.RowKit
theorem pv_makeFunc_v {P : Program} {o : Oper} {s : Slots} {g : Fn} {first caps : Array Operand} {fs cs : List Value} (ho : o.op = .makeFunc g first caps) (hf : first.toList.map (evA s) = (fs.map AV.v).map some) (hc : caps.toList.map (evA s) = (cs.map AV.v).map some) :
    PV P o s (.v (.func g fs.toArray cs.toArray)) := fun w S a hs => by
  have h1 := VRels.lits_inv (hs.evals hf)
  have h2 := VRels.lits_inv (hs.evals hc)
  refine ⟨.func g (first.map a.eval) (caps.map a.eval), fun w' => by simp [execOp, ho, Instr.makeFunc], ?_⟩
  have e1 : first.map a.eval = (first.toList.map a.eval).toArray := by rw [← Array.toList_map]
  have e2 : caps.map a.eval = (caps.toList.map a.eval).toArray := by rw [← Array.toList_map]
  rw [e1, e2, h1, h2]
  exact .v _
end Go.Tl
namespace Go.Proofs.Ytlpknbneilgjkaa
open Go Go.RowKit Go.Tl
set_option linter.unusedVariables false
set_option linter.unusedSimpArgs false
set_option maxRecDepth 100000
set_option maxHeartbeats 4000000
end Go.Proofs.Ytlpknbneilgjkaa
end
section
namespace Go.Tl
open Go Go.RowKit
set_option linter.unusedVariables false
set_option linter.unusedSimpArgs false
end Go.Tl
end
section
namespace Go.Tl
open Go Go.RowKit
set_option linter.unusedVariables false
set_option linter.unusedSimpArgs false
section
variable {P : Program} {o : Oper} {s : Slots}
theorem pv_index (T : TT P) {t n e m q : Nat} {ag : Bool} {x y : Operand} {cs : List AV} {k : IntKind} {i : Int} {r : AV} (ho : o.op = .index t x y) (hx : evA s x = some (.ag cs)) (hy : evA s y = some (.v (.int k i)))
    (ht : f2 T.arr t = some (n, e, m)) (he : f2 T.siz e = some (m, ag)) (h0 : 0 ≤ i ∧ i < n) (hq : i.toNat * m = q) (hl : Nat.ble (q + m) cs.length = true) (h1 : ag = true ∨ m = 1) (hr : ldA ag m (cs.drop q) = r) : PV P o s r := fun w S a hs => by
  obtain ⟨j, hu, hj, hsz, hne⟩ := T.arr_at ht
  obtain ⟨j', d, hj', hjn, _, hu', hd⟩ := T.siz_at he
  have hl := Nat.le_of_ble_eq_true hl
  have hv := hs.eval hx
  have h2 := hs.lit hy
  generalize hvx : a.eval x = v at *
  cases hv with
  | @ag _ vs hlen hh =>
    have hrel : VRels w S cs vs := ⟨hlen, hh⟩
    have hL := ldA_rel (ag := ag) (n := m) (hrel.drop q) (by simp; omega) hne
    subst hr
    subst hq
    refine ⟨_, fun w' => ?_, hL⟩
    have hrun : (part e vs.toArray (i.toNat * m)).run P w' = .ok (if ag then .agg ((vs.drop (i.toNat * m)).take m).toArray else ((vs.drop (i.toNat * m)).take m).getD 0 undef) w' := by
      cases ag with
      | true => simp [part, run_isAgg' hu', hd, run_sizeOf' hj', hjn, List.extract_eq_take_drop]
      | false =>
        have hm : m = 1 := by simpa using h1
        subst hm
        have hlt : i.toNat * 1 < vs.length := by omega
        simp only [Nat.mul_one] at hlt
        simp [part, run_isAgg' hu', hd, hlt, List.getD_eq_getElem?_getD, List.getElem?_take]
    simp [execOp, ho, hvx, h2, Instr.index, asIntOf, run_underlying hu, run_sizeOf' hj, h0.1, h0.2, hsz, hrun]
theorem fill_mono {f g : Nat → Option (Nat × Nat)} (hfg : ∀ i p, f i = some p → g i = some p) : ∀ (vs : List (Nat × Value)) (cells r : Array Value), Instr.fill f cells vs = some r → Instr.fill g cells vs = some r
  | [], cells, r, h => by simpa [Instr.fill] using h
  | (i, v) :: vs, cells, r, h => by
    simp only [Instr.fill] at h ⊢
    cases hp : f i with
    | none => rw [hp] at h; simp at h
    | some p =>
      rw [hp] at h
      rw [hfg i p hp]
      simp only at h ⊢
      split at h
      · cases h
      · rename_i hc
        rw [if_neg hc]
        exact fill_mono hfg vs _ _ h
theorem pv_build_arr (T : TT P) {t : TypeId} {parts : Array (Nat × Operand)} {z : Value} {n e m : Nat} {ys : List (Nat × AV)} {cs0 cs : List AV} (ho : o.op = .build t parts) (hz : f2 T.zer t = some z) (ht : f2 T.arr t = some (n, e, m)) (hcs : z.cells.toList.map AV.v = cs0) (hp : BParts s parts.toList ys)
    (hf : FillA ((List.range n).map fun i => (i * m, m)) cs0 ys cs) : PV P o s (.ag cs) := fun w S a hs => by
  subst hcs
  have h1 := zOk_at T.zerOk hz
  obtain ⟨i, hi, hiz⟩ := Option.map_eq_some_iff.1 h1
  obtain ⟨j, hu, hj, hsz, hne⟩ := T.arr_at ht
  obtain ⟨hl, hv⟩ := hp.eq (w := w) (S := S) hs
  obtain ⟨cells, hfill, hrel⟩ := fill_rel hf z.cells _ (.lits _) hl hv
  have hfill2 := fill_mono (g := fun i => some (i * m, m)) (fun i p h => by
    simp only [List.getElem?_toArray, List.getElem?_map, Option.map_eq_some_iff] at h
    obtain ⟨q, hq, rfl⟩ := h
    have := List.getElem?_eq_some_iff.1 hq
    obtain ⟨h1, h2⟩ := this
    simp at h2
    rw [h2]) _ _ _ hfill
  refine ⟨.agg cells, fun w' => ?_, .ag (vs := cells.toList) hrel.1 hrel.2⟩
  have hmap : (parts.map fun p => (p.1, a.eval p.2)).toList = parts.toList.map fun p => (p.1, a.eval p.2) := by simp
  have hmap' : (Array.map (fun x => match x with | (i, x) => (i, a.eval x)) parts) = (parts.map fun p => (p.1, a.eval p.2)) := rfl
  simp only [execOp, ho, hmap', Instr.build, Sem.run_bind, zeroValue, typeInfo, run_program, hi, hiz, Result.andThen_ok, Sem.run_pure, run_underlying hu, run_sizeOf' hj, hsz, hmap, hfill2]
/-- what a call returned, if it is a plain value, may be looked up by later loads -/
theorem awt_lit {P : Program} {N : Nat} {ops : Array Oper} {so s : Slots} {ks h : List Ent} {Q : Exit → Slots → List Ent → Prop} {r : Go.Proofs.Ytlpknbneilgjkaa.PT} {x : Value} (d : Nat) (hd : look s d = some (.v x)) (K : AWT P N ops ((d, .v x) :: so) ks r Q s h) : AWT P N ops so ks r Q s h :=
  fun B w0 S0 w S a hs hso hks hl hsz hS hk => K B w0 S0 w S a hs (fun e y hy => by
    simp only [look] at hy
    by_cases c : Nat.beq d e = true
    · have e1 : d = e := Nat.eq_of_beq_eq_true c
      rw [c] at hy
      simp only [cond_true, Option.some.injEq, if_true] at hy
      subst hy
      subst e1
      obtain ⟨u, hu, hr⟩ := hs.slots d _ hd
      rw [hr.lit_inv] at hu
      exact ⟨x, hu, .v x⟩
    · simp only [Bool.not_eq_true] at c
      rw [c] at hy
      simp only [cond_false, Bool.false_eq_true, if_false] at hy
      exact hso e y hy) hks hl hsz hS hk
end
end Go.Tl
end
section
namespace Go.Proofs.Ytlpknbneilgjkaa
open Go Go.RowKit Go.Tl
set_option linter.unusedVariables false
set_option linter.unusedSimpArgs false
def fRows (f : Nat → Int) (m : Nat) : List (List AV) := (List.range m).map fun k => intRow (f k)
theorem fRows_len (f : Nat → Int) (m : Nat) : (fRows f m).length = m := by simp [fRows]
theorem fRows_at {f : Nat → Int} {m j : Nat} (hj : j < m) : ((fRows f m).getD j [])[0]? = some (intA (f j)) := by
  simp [fRows, List.getD_eq_getElem?_getD, hj, intRow]
theorem fRows_set {f g : Nat → Int} {m j : Nat} {v : Int} (hj : j < m) (hg : ∀ k, k < m → g k = if k = j then v else f k) : (fRows f m).set j (spA ((fRows f m).getD j []) 0 [intA v]) = fRows g m := by
  have e : spA ((fRows f m).getD j []) 0 [intA v] = intRow v := by simp [fRows, List.getD_eq_getElem?_getD, hj, intRow, spA]
  rw [e]
  refine List.ext_getElem? fun k => ?_
  rw [List.getElem?_set]
  simp only [fRows, List.length_map, List.length_range, List.getElem?_map]
  by_cases hk : k < m
  · rw [List.getElem?_range hk]
    have := hg k hk
    by_cases e : j = k
    · subst e; simp [hj, this]
    · rw [if_neg e, Option.map_some, Option.map_some, this, if_neg (fun h => e h.symm)]
  · rw [List.getElem?_eq_none (l := List.range m) (by simp; omega)]
    simp; omega
theorem fRows_tree {f : Nat → Int} {xs : List Int} {m : Nat} (h : xs = (List.range m).map f) : ∀ k, k < m → (fRows f m).getD k [] = ((fun k => [.sc (.int .i64 (xs.getD k 0))]) k : List Tr).map AV.ofTr := fun k hk => by
  subst h
  simp [fRows, List.getD_eq_getElem?_getD, hk, intRow, AV.ofTr]
end Go.Proofs.Ytlpknbneilgjkaa
end
section
namespace Go.Tl
open Go Go.RowKit
set_option linter.unusedVariables false
set_option linter.unusedSimpArgs false
section
variable {P : Program} {o : Oper} {s : Slots} {t t' : TypeId} {x z : Operand} {a b c : Int}
end
end Go.Tl
end
end
section
section
section
namespace Go.Tl
open Go Go.RowKit
set_option linter.unusedVariables false
set_option linter.unusedSimpArgs false
section
variable {P : Program} {o : Oper} {s : Slots} {h : List Ent}
section
variable {t t' : TypeId} {x z : Operand} {k : IntKind} {a b c : Int}
theorem pv_leq (ho : o.op = .binOp .leq t x z t') (hx : evA s x = some (.v (.int k a))) (hz : evA s z = some (.v (.int k b))) : PV P o s (.v (.bool (decide (a ≤ b)))) :=
  pv_bin ho hx hz (fun w => by simp [go_sem])
end
theorem pv_min2 {x y : Operand} {t1 t2 : TypeId} {k : IntKind} {a b : Int} (ho : o.op = .call { callee := .builtin .min, args := #[x, y], argTypes := #[t1, t2] }) (hx : evA s x = some (.v (.int k a))) (hy : evA s y = some (.v (.int k b))) :
    PV P o s (.v (.int k (min a b))) := fun w S a' hs =>
  ⟨_, fun w' => by
    have e : (if b < a then b else a) = min a b := by rw [Int.min_def]; split <;> split <;> omega
    simp [execOp, ho, resolve, invoke, builtin, Builtin.min_, Builtin.min2, hs.lit hx, hs.lit hy, e], .v _⟩
end
end Go.Tl
end
section
namespace Go.Proofs.Ytlpknbneilgjkaa
open Go
set_option linter.unusedVariables false
set_option linter.unusedSectionVars false
section
variable {md : Region.Mode} {ops : Array Oper}
section
variable {listed : Array Bool} {L : Nat} (hL : BitsL ops.size listed L) (hlow : Low ops.size L)
include hL hlow
end
end
end Go.Proofs.Ytlpknbneilgjkaa
namespace Go.Tl
open Go Go.RowKit
open Go.Proofs.Ytlpknbneilgjkaa (PT treeN tree_of)
set_option linter.unusedVariables false
end Go.Tl
end
section
namespace Go.Tl
open Go Go.RowKit
open Go.Proofs.Ytlpknbneilgjkaa (PT ptOk treeB kindOf isPre Closed isPre_listed getD_tf)
set_option linter.unusedVariables false
section
variable {P : Program} {ops : Array Oper} {Q : Exit → Act → World → Prop} {ro : Option Nat}
variable {md : Region.Mode} {S : World → Prop}
end
end Go.Tl
namespace Go.Tl
open Go Go.RowKit
set_option linter.unusedVariables false
section
variable {w w' : World} {S S' : Nat → Prop}
end
end Go.Tl
namespace Go.Tl
open Go Go.RowKit
set_option linter.unusedVariables false
section
variable {B : Base} {N : Nat} {w : World} {S : Nat → Prop} {s : Slots} {h : List Ent} {a : Act}
end
section
variable {P : Program}
section
variable (T : TT P)
end
end
end Go.Tl
namespace Go.Tl
open Go Go.RowKit
set_option linter.unusedVariables false
set_option linter.unusedSimpArgs false
section
variable {P : Program} {o : Oper} {s : Slots} {h : List Ent}
section
variable {t t' : TypeId} {x z : Operand} {k : IntKind} {a b c : Int}
end
theorem pv_neg {t : TypeId} {x : Operand} {k : IntKind} {a c : Int} (ho : o.op = .unOp .neg t x) (hx : evA s x = some (.v (.int k a))) (hc : k.wrap (0 - a) = c) : PV P o s (.v (.int k c)) := pv_un ho hx (fun w => by subst hc; simp [Op.unary, go_sem])
end
end Go.Tl
namespace Go.Tl
open Go Go.RowKit
set_option linter.unusedVariables false
set_option linter.unusedSimpArgs false
section
variable {P : Program} {N : Nat} {ro : Option Nat} {o : Oper} {md : Nat → Prop} {s : Slots} {h : List Ent} {K : Slots → List Ent → Prop} {Q : Exit → Slots → List Ent → Prop}
end
end Go.Tl
namespace Go.Tl
open Go Go.RowKit
set_option linter.unusedVariables false
set_option linter.unusedSimpArgs false
section
variable {P : Program} {N : Nat} {o : Oper} {md : Nat → Prop} {s : Slots} {h : List Ent} {K : Slots → List Ent → Prop}
end
end Go.Tl
namespace Go.Tl
open Go Go.RowKit
set_option linter.unusedVariables false
set_option linter.unusedSimpArgs false
section
variable {B : Base} {N : Nat} {w : World} {S : Nat → Prop} {s : Slots} {h h1 : List Ent} {a : Act}
end
theorem awl_ghost {P : Program} {N : Nat} {ops : Array Oper} {l : List Oper} {Q : Exit → Slots → List Ent → Prop} {s s' : Slots} {h h' : List Ent} (G : Ghost s h s' h') (H : AWL P N ops l Q s' h') : AWL P N ops l Q s h := fun B w S a hs => by
  obtain ⟨S', hs', _⟩ := G B N w S a hs
  exact H B w S' a hs'
section
variable {P : Program} {N : Nat} {o : Oper} {md : Nat → Prop} {s : Slots} {h h1 : List Ent} {K : Slots → List Ent → Prop}
end
end Go.Tl
namespace Go.Tl
open Go Go.RowKit
set_option linter.unusedVariables false
set_option linter.unusedSimpArgs false
section
variable {P : Program} {N : Nat} {o : Oper} {md : Nat → Prop} {s : Slots} {h h1 : List Ent} {K : Slots → List Ent → Prop}
end
end Go.Tl
namespace Go.Tl
open Go Go.RowKit
set_option linter.unusedVariables false
set_option linter.unusedSimpArgs false
section
variable {P : Program} {N : Nat} {o : Oper} {md : Nat → Prop} {s : Slots} {h h1 : List Ent} {K : Slots → List Ent → Prop}
end
end Go.Tl
namespace Go.Tl
open Go Go.RowKit
set_option linter.unusedVariables false
section
variable {P : Program} {N : Nat} {ro : Option Nat} {o : Oper} {s : Slots} {h : List Ent} {Q : Exit → Slots → List Ent → Prop} {ops : Array Oper} {rest : List Oper}
variable {K : Slots → List Ent → Prop} {id i : Nat} {I : Nat → Slots → List Ent → Prop} {n : Nat}
theorem body_n {T : TT P} {fn : Func} {R : AV → List Ent → Prop} {ys : List AV} {h' : List Ent} (h1 : resL T s h fn.results.toList ys) (h2 : SubH h' h) (h3 : R (resA ys) h') : bodyQ T fn R .normal s h := ⟨s, h, .refl, ys, h1, h', h2, h3⟩
theorem res_cell {T : TT P} {c t g n : Nat} {T' : TypeId} {cs : List AV} {ag : Bool} {y : AV} {vs : List ResultVar} {ys : List AV} (h1 : look s c = some (.v (.pointer (some ⟨g, 0, none⟩)))) (h2 : f2 T.siz t = some (n, ag)) (h3 : Mem1 (.cl g T' cs) h) (h4 : Nat.ble n cs.length = true) (h5 : (ag || Nat.beq n 1) = true) (h6 : ldA ag n cs = y) (h7 : resL T s h vs ys) :
    resL T s h (.cell c t :: vs) (y :: ys) :=
  .cons ⟨g, T', cs, n, ag, h1, h2, h3, Nat.le_of_ble_eq_true h4, by simp only [Bool.or_eq_true] at h5; exact h5.imp id Nat.eq_of_beq_eq_true, h6⟩ h7
end
section
variable {P : Program} {N : Nat} {o : Oper} {s : Slots} {h : List Ent}
end
end Go.Tl
namespace Go.Tl
open Go Go.RowKit
open Go.Proofs.Ytlpknbneilgjkaa (PT treeB)
set_option linter.unusedVariables false
section
variable {P : Program} {N : Nat} {ops : Array Oper} {so s : Slots} {ks h : List Ent} {Q : Exit → Slots → List Ent → Prop} {r : PT} {i d : Nat} {o : Oper}
end
end Go.Tl
namespace Go.Tl
open Go Go.RowKit
set_option linter.unusedVariables false
section
variable {P : Program} {N : Nat} {o : Oper} {md : Nat → Prop} {s : Slots} {h h1 : List Ent} {K : Slots → List Ent → Prop}
end
end Go.Tl
namespace Go.Tl
open Go Go.RowKit
set_option linter.unusedVariables false
set_option linter.unusedSimpArgs false
section
variable {P : Program} {mt : TypeId} {n : Nat}
variable {N : Nat} {o : Oper} {md : Nat → Prop} {s : Slots} {h : List Ent} {K : Slots → List Ent → Prop}
end
end Go.Tl
namespace Go.Tl
open Go Go.RowKit
set_option linter.unusedVariables false
set_option linter.unusedSimpArgs false
section
variable {P : Program} {N : Nat} {o : Oper} {s : Slots}
variable {md : Nat → Prop} {h : List Ent} {K : Slots → List Ent → Prop}
end
end Go.Tl
namespace Go.Tl
open Go Go.RowKit
set_option linter.unusedVariables false
section
variable {P : Program} {N : Nat} {ro : Option Nat} {o : Oper} {s : Slots} {h : List Ent} {Q : Exit → Slots → List Ent → Prop} {ops : Array Oper} {rest : List Oper}
variable {mt : TypeId} {n : Nat} {md : Nat → Prop} {K : Slots → List Ent → Prop}
end
end Go.Tl
namespace Go.Tl
open Go Go.RowKit
theorem own_cl {g : Nat} {T : TypeId} {cs : List AV} : Own [.cl g T cs] g := ⟨_, List.mem_singleton.2 rfl, rfl⟩
section
variable {P : Program} {N : Nat} {o : Oper} {s : Slots} {h h1 : List Ent} {K : Slots → List Ent → Prop} {mt n : Nat}
theorem st_store_o (T : TT P) {t n g off : Nat} {ag : Bool} {x y : Operand} {u : AV} {T' : TypeId} {cs us cs' : List AV} {h' : List Ent} (ho : o.op = .store t x y) (hx : evA s x = some (.v (.pointer (some ⟨g, off, none⟩)))) (hy : evA s y = some u)
    (ht : f2 T.siz t = some (n, ag)) (hok : okA u = true) (hu : cellsA u = us) (hone : us.all oneA = true) (hn : Nat.beq us.length n = true) (hd : o.dst = none) (hp : Repl h (.cl g T' cs) (.cl g T' cs') h') (hcs : Sp cs off us cs') (hK : K s h') : AOp P N o (Own [.cl g T' cs]) s h K := st_store T ho hx hy ht hok hu hone hn hd hp hcs own_cl hK
end
end Go.Tl
namespace Go.Tl
open Go Go.RowKit
set_option linter.unusedVariables false
set_option linter.unusedSimpArgs false
section
variable {P : Program} {N : Nat} {o : Oper} {md : Nat → Prop} {s : Slots} {h : List Ent} {K : Slots → List Ent → Prop}
end
end Go.Tl
end
section
namespace Go.Tl
open Go Go.RowKit
end Go.Tl
namespace Go.Tl
open Go Go.RowKit
end Go.Tl
end
end
section
namespace Go.Tl
open Go Go.RowKit
open Go.Proofs.Ytlpknbneilgjkaa (PT)
set_option linter.unusedVariables false
def Wu (ops : Array Oper) (o : Oper) (s : Slots) : Prop := ∃ g b og t, o.guard = some (g, b) ∧ ops[g]? = some og ∧ og.dst = some t ∧ look s t = some (.v undef)
theorem wu_some {ops : Array Oper} {o : Oper} {s : Slots} {g t : Nat} {b : Bool} {og : Oper} (h : o.guard = some (g, b)) (h1 : ops[g]? = some og) (h2 : og.dst = some t) (h3 : look s t = some (.v undef)) : Wu ops o s := ⟨g, b, og, t, h, h1, h2, h3⟩
theorem Wu.unwanted {ops : Array Oper} {o : Oper} {s : Slots} {w : World} {S : Nat → Prop} {a : Act} (h : Wu ops o s) (hs : SRel w S s a.tmps) : Region.wanted o (yielded ops a.tmps) = false := by
  obtain ⟨g, b, og, t, h, h1, h2, h3⟩ := h
  obtain ⟨v, hv1, hv2⟩ := hs t _ h3
  simp [Region.wanted, h, yielded, h1, h2, hv1, hv2.lit_inv, undef]
section
variable {P : Program} {N : Nat} {ops : Array Oper} {o : Oper} {rest : List Oper} {so s : Slots} {ks h : List Ent} {Q : Exit → Slots → List Ent → Prop} {r : PT} {i d : Nat}
theorem awe_sku (ho : ops[i]? = some o) (hw : Wu ops o s) (hd : o.dst = some d) (hN : Nat.blt d N = true) (K : AWE P N ops r Q ((d, .v undef) :: s) h) : AWE P N ops (.op i 0 r) Q s h := fun B SS w S a hs => by
  refine ⟨o, undef, ho, .inr ⟨hw.unwanted hs.slots, rfl⟩, ?_⟩
  rw [hd]
  exact K B SS w S _ (hs.put (.v _) (blt_lt hN))
end
end Go.Tl
end
section
namespace Go.Tl
open Go Go.RowKit
set_option linter.unusedVariables false
open Go.Proofs.Ytlpknbneilgjkaa (PT)
end Go.Tl
end
section
namespace Go.Tl
open Go Go.RowKit
set_option linter.unusedVariables false
set_option linter.unusedSimpArgs false
end Go.Tl
end
end
