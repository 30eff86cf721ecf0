/- Joined texts: Bas, Obp, Ix, Fr, Bit. -/
import Derived.Test.YtlpknbneilgjkaaTL
import Derived.WalkKit
import Derived.WalkSpells
import Derived.Lib.Hide
import Derived.Deep.QuietTactic
import Derived.BigQuiet
import Derived.ChangeSame
import Derived.ChangeSlices
import Derived.ChangeShapes
import Derived.Test.YtlpknbneilgjkaaGTx
section
section
section
namespace Go.Proofs.Ytlpknbneilgjkaa
open Go.RowKit
set_option linter.unusedVariables false

/-- cells of a slice of integers -/
def IntsAt (w : World) (a : Option Addr) (xs : List Int) : Prop :=
  ∀ k, k < xs.length → ∃ b off, a = some ⟨b, off, none⟩ ∧ w.cell? ⟨b, off + k, none⟩ = some (.int .i64 (xs.getD k 0))

def RowsAt (w : World) (a : Option Addr) (xs : List (List Int)) : Prop :=
  ∀ k, k < xs.length → ∃ b off pa pc, a = some ⟨b, off, none⟩ ∧ w.cell? ⟨b, off + k, none⟩ = some (.slice pa (xs.getD k []).length pc) ∧ IntsAt w pa (xs.getD k [])

theorem cell_below {w w' : World} {p : Addr} {v : Value} (hb : Below w.heap.size w w') (h : w.cell? p = some v) : w'.cell? p = some v :=
  (hb.cell (World.block_lt_of_cell? _ _ h)).trans h

theorem IntsAt.below {w w' : World} {a : Option Addr} {xs : List Int} (h : IntsAt w a xs) (hb : Below w.heap.size w w') : IntsAt w' a xs := fun k hk => by
  obtain ⟨b, off, e, c⟩ := h k hk
  exact ⟨b, off, e, cell_below hb c⟩
theorem RowsAt.below {w w' : World} {a : Option Addr} {xs : List (List Int)} (h : RowsAt w a xs) (hb : Below w.heap.size w w') : RowsAt w' a xs := fun k hk => by
  obtain ⟨b, off, pa, pc, e, c, d⟩ := h k hk
  exact ⟨b, off, pa, pc, e, cell_below hb c, d.below hb⟩
def inB (n lo hi : Int) : Bool := decide (lo ≤ n ∧ n ≤ hi)
theorem all_getD {α : Type} {d : α} {l : List α} {p : α → Bool} : l.all p = true ↔ ∀ k, k < l.length → p (l.getD k d) = true := by
  rw [List.all_eq_true]
  constructor
  · intro h k hk
    rw [List.getD_eq_getElem?_getD, List.getElem?_eq_getElem hk]
    exact h _ (List.getElem_mem hk)
  · intro h x hx
    obtain ⟨k, hk, rfl⟩ := List.getElem_of_mem hx
    have := h k hk
    rw [List.getD_eq_getElem?_getD, List.getElem?_eq_getElem hk] at this
    exact this
end Go.Proofs.Ytlpknbneilgjkaa
end
section
namespace Go.Proofs.Ytlpknbneilgjkaa
set_option linter.unusedVariables false

end Go.Proofs.Ytlpknbneilgjkaa
end
section
namespace Go.Proofs.Ytlpknbneilgjkaa
open Go.RowKit
set_option linter.unusedVariables false
set_option linter.unusedSimpArgs false
end Go.Proofs.Ytlpknbneilgjkaa
end
section
namespace Go.Proofs.Ytlpknbneilgjkaa
open Go.RowKit
set_option linter.unusedVariables false
end Go.Proofs.Ytlpknbneilgjkaa
end
section
namespace Go.Proofs.Ytlpknbneilgjkaa
open Go.RowKit
set_option linter.unusedVariables false
end Go.Proofs.Ytlpknbneilgjkaa
end

end
section
section
namespace Go.Proofs.Ytlpknbneilgjkaa
open Go.RowKit
set_option linter.unusedVariables false

theorem take_succ_getD {α : Type} {l : List α} {k : Nat} (d : α) (h : k < l.length) : l.take (k + 1) = l.take k ++ [l.getD k d] := by
  rw [List.take_succ_eq_append_getElem h, List.getD_eq_getElem?_getD, List.getElem?_eq_getElem h]; rfl

theorem getD_mem {α : Type} {l : List α} {k : Nat} {d : α} (h : k < l.length) : l.getD k d ∈ l := by
  rw [List.getD_eq_getElem?_getD, List.getElem?_eq_getElem h]
  exact List.getElem_mem h

end Go.Proofs.Ytlpknbneilgjkaa
end
section
namespace Go.Proofs.Ytlpknbneilgjkaa
open Go.RowKit
set_option linter.unusedVariables false

end Go.Proofs.Ytlpknbneilgjkaa
end
section
namespace Go.Proofs.Ytlpknbneilgjkaa
open Go.RowKit
set_option linter.unusedVariables false

end Go.Proofs.Ytlpknbneilgjkaa
end
section
namespace Go.Proofs.Ytlpknbneilgjkaa
open Go.RowKit
set_option linter.unusedVariables false

end Go.Proofs.Ytlpknbneilgjkaa
end
section
namespace Go.Proofs.Ytlpknbneilgjkaa
open Go.RowKit
set_option linter.unusedVariables false

end Go.Proofs.Ytlpknbneilgjkaa
end
section
namespace Go.Proofs.Ytlpknbneilgjkaa
open Go.RowKit
set_option linter.unusedVariables false

end Go.Proofs.Ytlpknbneilgjkaa
end

end
section
section
namespace Go.Proofs.Ytlpknbneilgjkaa
open Go Go.RowKit Go.Tl
set_option linter.unusedVariables false
section
variable {w : World} {S : Nat → Prop}
theorem ag_inv {cs : List AV} {v : Value} (h : VRel w S (.ag cs) v) : ∃ vs : List Value, v = .agg vs.toArray ∧ VRels w S cs vs := by
  cases h with | ag hl h => exact ⟨_, rfl, hl, h⟩
theorem rels1 {x : AV} {r : List AV} {vs : List Value} (h : VRels w S (x :: r) vs) : ∃ v us, vs = v :: us ∧ VRel w S x v ∧ VRels w S r us := by
  cases vs with
  | nil => have := h.1; simp at this
  | cons v us => exact ⟨v, us, rfl, h.2 0 x v rfl rfl, by have := h.1; simpa using this, fun j a b ha hb => h.2 (j + 1) a b (by simpa using ha) (by simpa using hb)⟩
theorem rels0 {vs : List Value} (h : VRels w S [] vs) : vs = [] := List.length_eq_zero_iff.1 h.1.symm
end
end Go.Proofs.Ytlpknbneilgjkaa
namespace Go.Proofs.Ytlpknbneilgjkaa
open Go Go.RowKit Go.Tl
set_option linter.unusedVariables false
set_option linter.unusedSimpArgs false
theorem rows_tree {α : Type} {d : α} (xs : List α) (row : α → List AV) (f : α → List Tr) (h : ∀ x, row x = (f x).map AV.ofTr) : ∀ k, k < xs.length → (xs.map row).getD k [] = ((fun k => f (xs.getD k d)) k).map AV.ofTr := fun k hk => by
  simp [List.getD_eq_getElem?_getD, hk, h]
theorem rows_step {α : Type} {d : α} {xs : List α} {k : Nat} (row : α → List AV) (hk : k < xs.length) : (xs.take (k + 1)).map row = (xs.take k).map row ++ [row (xs.getD k d)] := by
  rw [take_succ_getD d hk, List.map_append]; rfl
theorem inB_iff {n lo hi : Int} : inB n lo hi = true ↔ lo ≤ n ∧ n ≤ hi := by simp [inB]
end Go.Proofs.Ytlpknbneilgjkaa
end
section
namespace Go.Proofs.Ytlpknbneilgjkaa
open Go Go.RowKit Go.ChangeShapes
set_option linter.unusedVariables false
set_option linter.unusedSimpArgs false
theorem list_of {α : Type} [Inhabited α] {n : Nat} {R : Nat → α → Prop} (h : ∀ i, i < n → ∃ x, R i x) : ∃ l : List α, l.length = n ∧ ∀ i, i < n → R i (l.getD i default) := by
  classical
  refine ⟨(List.range n).map fun i => if hi : i < n then Classical.choose (h i hi) else default, by simp, fun i hi => ?_⟩
  have e : ((List.range n).map fun i => if hi : i < n then Classical.choose (h i hi) else default).getD i default = Classical.choose (h i hi) := by
    simp [List.getD_eq_getElem?_getD, hi]
  rw [e]
  exact Classical.choose_spec (h i hi)
section
variable {H : Type} {enc : TypeId × Value → H} {P : Program} {w : World} {base : Nat} {spare : Nat → Bool} {held : Bool}
theorem open_slice {α : Type} [Inhabited α] {t e : TypeId} {sz fuel : Nat} {cs : List Value} {x : DataW H × List MemPlace} (ht : P.underlying t = some (.slice e)) (hsz : P.cellsOf e = sz) (hpos : 0 < sz) {R : (Nat → Value) → α → Prop}
    (hR : ∀ (fuel : Nat) (cs : List Value) (y : DataW H × List MemPlace), DataW.trod enc P w base spare held fuel e cs = some y → cs.length = sz → ∃ r : α, R (fun j => cs.getD j undef) r)
    (h : DataW.trod enc P w base spare held fuel t cs = some x) :
    ∃ (a : Option Addr) (c : Nat) (l : List α), cs = [.slice a l.length c] ∧ l.length ≤ maxLen ∧ ∀ k, k < l.length → ∃ b off val, a = some ⟨b, off, none⟩ ∧ (∀ j, j < sz → w.cell? ⟨b, off + k * sz + j, none⟩ = some (val j)) ∧ R val (l.getD k default) := by
  rcases DataW.trod_slice ht h with ⟨rfl, _⟩ | ⟨a, len, cap, elems, rest, n, _, rfl, _, hb, hl, hm, hlen, hel, _, _⟩
  · exact ⟨none, 0, [], rfl, Nat.zero_le _, fun k hk => absurd hk (Nat.not_lt_zero _)⟩
  have hspot : 0 < len → a.spot = none := fun h0 => by
    have h1 := hel 0 h0
    rw [hsz, List.getElem?_eq_getElem (by omega), Option.bind_eq_some_iff] at h1
    obtain ⟨cs1, hc1, hy1⟩ := h1
    obtain ⟨_, hl1, hcell⟩ := World.cells?_some hc1
    have g0 := hcell 0 hpos
    rw [List.getElem?_eq_getElem (by omega)] at g0
    simpa [Addr.add] using World.cell?_spot g0
  have each : ∀ i, i < len → ∃ r : α, ∃ b off val, some a = some ⟨b, off, none⟩ ∧ (∀ j, j < sz → w.cell? ⟨b, off + i * sz + j, none⟩ = some (val j)) ∧ R val r := fun i hi => by
    have h1 := hel i hi
    rw [hsz, List.getElem?_eq_getElem (by omega), Option.bind_eq_some_iff] at h1
    obtain ⟨cs1, hc1, hy1⟩ := h1
    obtain ⟨_, hl1, hcell⟩ := World.cells?_some hc1
    obtain ⟨r, hr⟩ := hR n cs1 _ hy1 hl1
    obtain ⟨b, off, spot⟩ := a
    have hsp : spot = none := hspot (by omega)
    subst hsp
    refine ⟨r, b, off, fun j => cs1.getD j undef, rfl, fun j hj => ?_, hr⟩
    have g := hcell j hj
    rw [List.getElem?_eq_getElem (by omega)] at g
    have e2 : cs1.getD j undef = cs1[j]'(by omega) := by simp [List.getD_eq_getElem?_getD, show j < cs1.length by omega]
    show _ = some (cs1.getD j undef)
    rw [e2, ← g]
    congr 1
    unfold Addr.add
    split <;> split <;> simp_all
  obtain ⟨l, hll, hl2⟩ := list_of each
  exact ⟨some a, cap, l, by rw [hll], by omega, fun k hk => hl2 k (by omega)⟩
end
end Go.Proofs.Ytlpknbneilgjkaa
end
section
namespace Go.Proofs.Ytlpknbneilgjkaa
open Go Go.RowKit Go.Tl
set_option linter.unusedVariables false
section
variable {w : World}
theorem sl_in {a : Option Addr} {c sz n : Nat} {f : Nat → List Tr} (hl : ∀ k, k < n → (f k).length = sz) (hsz : 0 < sz)
    (h : ∀ k, k < n → ∃ (b off : Nat) (val : Nat → Value), a = some ⟨b, off, none⟩ ∧ (∀ j, j < sz → w.cell? ⟨b, off + k * sz + j, none⟩ = some (val j)) ∧ ∀ (j : Nat) (x : Tr), (f k)[j]? = some x → Tl.TRel w (fun b => b < w.heap.size) x (val j)) :
    Tl.TRel w (fun b => b < w.heap.size) (.sl false sz n f) (.slice a n c) := by
  have h' : ∀ k, ∃ val : Nat → Value, k < n → ∃ b off : Nat, a = some ⟨b, off, none⟩ ∧ (∀ j, j < sz → w.cell? ⟨b, off + k * sz + j, none⟩ = some (val j)) ∧ ∀ (j : Nat) (x : Tr), (f k)[j]? = some x → Tl.TRel w (fun b => b < w.heap.size) x (val j) := fun k => by
    by_cases hk : k < n
    · obtain ⟨b, off, val, h1, h2, h3⟩ := h k hk
      exact ⟨val, fun _ => ⟨b, off, h1, h2, h3⟩⟩
    · exact ⟨fun _ => undef, fun h => absurd h hk⟩
  obtain ⟨V, hV⟩ := Classical.axiomOfChoice h'
  refine .sl V (fun h => by cases h) hl (fun k hk => ?_) (fun k j x hk hx => ?_)
  · obtain ⟨b, off, h1, h2, _⟩ := hV k hk
    exact ⟨b, off, h1, World.block_lt_of_cell? _ _ (h2 0 hsz), h2⟩
  · obtain ⟨b, off, _, _, h3⟩ := hV k hk
    exact h3 j x hx
theorem rels_cons {S : Nat → Prop} {x : AV} {v : Value} {xs : List AV} {vs : List Value} (h : VRel w S x v) (hs : VRels w S xs vs) : VRels w S (x :: xs) (v :: vs) :=
  ⟨by simp [hs.1], fun j a b ha hb => by
    cases j with
    | zero => simp at ha hb; subst ha; subst hb; exact h
    | succ j => exact hs.2 j a b (by simpa using ha) (by simpa using hb)⟩
theorem rels_nil {S : Nat → Prop} : VRels w S [] [] := ⟨rfl, fun j x y h => by simp at h⟩
theorem ag_rel {S : Nat → Prop} {cs : List AV} {vs : List Value} (h : VRels w S cs vs) : VRel w S (.ag cs) (.agg vs.toArray) := .ag h.1 h.2
end
theorem pcall_calls {P : Program} {f : Nat} {args : List AV} {R : AV → Prop} (h : PCall P f args R) {w : World} {vs : List Value} (hv : VRels w (fun b => b < w.heap.size) args vs) {v : Value} (hR : ∀ r, R r → r = .v v) :
    Calls P f vs.toArray w fun e w' => e = .returned v ∧ Below w.heap.size w w' :=
  (h w _ vs (fun _ h => h) HRel.nil hv).mono fun e w' ⟨u, S', r, h', e1, ⟨hr, _⟩, hvr, hx, _⟩ => by
    have := hR r hr
    subst this
    rw [hvr.lit_inv] at e1
    exact ⟨e1, hx.os, hx.tape, hx.output, hx.size, fun b hb => hx.keep b hb (fun ⟨e, he, _⟩ => by cases he)⟩
end Go.Proofs.Ytlpknbneilgjkaa
end
section
namespace Go.Proofs.Ytlpknbneilgjkaa
open Go Go.RowKit Go.ChangeShapes Go.Tl
set_option linter.unusedVariables false
def KintsAt (k : IntKind) (w : World) (a : Option Addr) (xs : List Int) : Prop :=
  ∀ j, j < xs.length → ∃ b off, a = some ⟨b, off, none⟩ ∧ w.cell? ⟨b, off + j, none⟩ = some (.int k (xs.getD j 0))
abbrev kintsT (k : IntKind) (xs : List Int) : Tr := .sl false 1 xs.length (fun j => [.sc (.int k (xs.getD j 0))])
theorem kints_in {k : IntKind} {w : World} {a : Option Addr} {c : Nat} {xs : List Int} (h : KintsAt k w a xs) : Tl.TRel w (fun b => b < w.heap.size) (kintsT k xs) (.slice a xs.length c) := by
  refine sl_in (fun _ _ => rfl) (by omega) fun j hj => ?_
  obtain ⟨b, off, e, hc⟩ := h j hj
  exact ⟨b, off, fun _ => .int k (xs.getD j 0), e, fun q hq => by obtain rfl : q = 0 := by omega
                                                                  simpa using hc, fun q x hx => by
    cases q with
    | zero => simp at hx; subst hx; exact .sc _
    | succ q => simp at hx⟩
theorem wf_in {k : IntKind} {n : Int} (h : (Lit.int k n).wf = true) : k.min ≤ n ∧ n ≤ k.max := by simpa [Lit.wf] using h
section
variable {P : Program} {H : Type} {enc : TypeId × Value → H} {w : World} {base : Nat} {spare : Nat → Bool} {held : Bool}
theorem open_kints {k : IntKind} {t e : TypeId} {fuel : Nat} {cs : List Value} {x : DataW H × List MemPlace} (ht : P.underlying t = some (.slice e)) (he : P.underlying e = some (.int k)) (hc : P.cellsOf e = 1)
    (h : DataW.trod enc P w base spare held fuel t cs = some x) : ∃ (a : Option Addr) (c : Nat) (xs : List Int), cs = [.slice a xs.length c] ∧ xs.length ≤ maxLen ∧ KintsAt k w a xs ∧ ∀ y ∈ xs, k.min ≤ y ∧ y ≤ k.max := by
  obtain ⟨a, c, l, h1, h2, h3⟩ := open_slice (α := Int) (R := fun val r => val 0 = .int k r ∧ k.min ≤ r ∧ r ≤ k.max) ht hc (by omega) (fun fuel cs y hy hl => by
    obtain ⟨n, rfl, _, hw⟩ := DataW.trod_int he hy
    exact ⟨n, rfl, wf_in hw⟩) h
  refine ⟨a, c, l, h1, h2, fun j hj => ?_, fun y hy => ?_⟩
  · obtain ⟨b, off, val, e, g, r⟩ := h3 j hj
    refine ⟨b, off, e, ?_⟩
    have := g 0 (by omega)
    rw [r.1] at this
    simpa using this
  · obtain ⟨j, hj, rfl⟩ := List.getElem_of_mem hy
    obtain ⟨b, off, val, e, g, r⟩ := h3 j hj
    have e : l.getD j default = l[j] := by simp [List.getD_eq_getElem?_getD, hj]
    rw [e] at r
    exact r.2
end
end Go.Proofs.Ytlpknbneilgjkaa
end

end
section
section
namespace Go.Proofs.Ytlpknbneilgjkaa
open Go.RowKit
set_option linter.unusedVariables false

end Go.Proofs.Ytlpknbneilgjkaa
end
section
namespace Go.Tl
open Go Go.RowKit
set_option linter.unusedVariables false
theorem acall_own {P : Program} {g : Nat} {v : Value} {E sz n : Nat} {rows : List (List AV)} {f : Nat → List Tr} {R : AV → Prop} (C : PCall P g [.t (.sl true sz n f)] R) (hn : rows.length = n) (hf : ∀ k, k < n → rows.getD k [] = (f k).map AV.ofTr) :
    ACall P g [.v v] [.rw v E sz rows] (fun r h' => R r ∧ h' = []) := fun w S vs h1 h2 h3 => by
  have he := h2.ent _ List.mem_cons_self
  have ht := row_tree he hn hf
  have hlt' : ∀ b, (S b ∨ v.ownBlock = some b) → b < w.heap.size := fun b hb => by
    rcases hb with hb | hb
    · exact h1 b hb
    · obtain ⟨xs, ho, _⟩ := he
      exact (ho.lt b hb).2
  have hvs : vs = [v] := by
    have := VRels.lits_inv (xs := [v]) h3
    exact this
  subst hvs
  refine (C w _ [v] hlt' HRel.nil (.cons (.t ht) .nil)).mono fun e w' ⟨v', S'', r, h', e1, hq, hvr, E', hlt, hr, hl⟩ => ⟨v', S'', r, h', e1, hq, hvr, ⟨E'.os, E'.tape, E'.output, E'.size, fun b hb hn => E'.keep b hb (fun ⟨e, he, _⟩ => by cases he), fun b hb => E'.stab b (.inl hb), fun b hb => ?_⟩, hlt, hr, fun e he => ?_⟩
  · rcases E'.new b hb with (h | h) | h | ⟨e, he, _⟩
    · exact .inl h
    · exact .inr (.inr ⟨_, List.mem_cons_self, h⟩)
    · exact .inr (.inl h)
    · cases he
  · rw [hq.2] at he; cases he
end Go.Tl
namespace Go.Proofs.Ytlpknbneilgjkaa
open Go Go.RowKit Go.Tl
set_option linter.unusedVariables false
end Go.Proofs.Ytlpknbneilgjkaa
end
section
namespace Go.Proofs.Ytlpknbneilgjkaa
open Go.RowKit
set_option linter.unusedVariables false
set_option linter.unusedSectionVars false
section

end
end Go.Proofs.Ytlpknbneilgjkaa
end

end
namespace Go.Tl
open Go Go.RowKit
end Go.Tl
namespace Go.Proofs.Ytlpknbneilgjkaa
open Go Go.RowKit Go.Tl
set_option linter.unusedVariables false
set_option linter.unusedSimpArgs false
set_option maxRecDepth 100000
set_option maxHeartbeats 4000000
end Go.Proofs.Ytlpknbneilgjkaa

namespace Go.Tl
open Go Go.RowKit
theorem pv_makeFunc_v {P : Program} {o : Oper} {s : Slots} {g : Fn} {first caps : Array Operand} {fs cs : List Value} (ho : o.op = .makeFunc g first caps) (hf : first.toList.map (evA s) = (fs.map AV.v).map some) (hc : caps.toList.map (evA s) = (cs.map AV.v).map some) :
    PV P o s (.v (.func g fs.toArray cs.toArray)) := fun w S a hs => by
  have h1 := VRels.lits_inv (hs.evals hf)
  have h2 := VRels.lits_inv (hs.evals hc)
  refine ⟨.func g (first.map a.eval) (caps.map a.eval), fun w' => by simp [execOp, ho, Instr.makeFunc], ?_⟩
  have e1 : first.map a.eval = (first.toList.map a.eval).toArray := by rw [← Array.toList_map]
  have e2 : caps.map a.eval = (caps.toList.map a.eval).toArray := by rw [← Array.toList_map]
  rw [e1, e2, h1, h2]
  exact .v _
end Go.Tl
namespace Go.Proofs.Ytlpknbneilgjkaa
open Go Go.RowKit Go.Tl
set_option linter.unusedVariables false
set_option linter.unusedSimpArgs false
set_option maxRecDepth 100000
set_option maxHeartbeats 4000000
end Go.Proofs.Ytlpknbneilgjkaa
end
section
namespace Go.Tl
open Go Go.RowKit
set_option linter.unusedVariables false
set_option linter.unusedSimpArgs false
end Go.Tl
end
section
namespace Go.Tl
open Go Go.RowKit
set_option linter.unusedVariables false
set_option linter.unusedSimpArgs false
section
variable {P : Program} {o : Oper} {s : Slots}
theorem pv_index (T : TT P) {t n e m q : Nat} {ag : Bool} {x y : Operand} {cs : List AV} {k : IntKind} {i : Int} {r : AV} (ho : o.op = .index t x y) (hx : evA s x = some (.ag cs)) (hy : evA s y = some (.v (.int k i)))
    (ht : f2 T.arr t = some (n, e, m)) (he : f2 T.siz e = some (m, ag)) (h0 : 0 ≤ i ∧ i < n) (hq : i.toNat * m = q) (hl : Nat.ble (q + m) cs.length = true) (h1 : ag = true ∨ m = 1) (hr : ldA ag m (cs.drop q) = r) : PV P o s r := fun w S a hs => by
  obtain ⟨j, hu, hj, hsz, hne⟩ := T.arr_at ht
  obtain ⟨j', d, hj', hjn, _, hu', hd⟩ := T.siz_at he
  have hl := Nat.le_of_ble_eq_true hl
  have hv := hs.eval hx
  have h2 := hs.lit hy
  generalize hvx : a.eval x = v at *
  cases hv with
  | @ag _ vs hlen hh =>
    have hrel : VRels w S cs vs := ⟨hlen, hh⟩
    have hL := ldA_rel (ag := ag) (n := m) (hrel.drop q) (by simp; omega) hne
    subst hr
    subst hq
    refine ⟨_, fun w' => ?_, hL⟩
    have hrun : (part e vs.toArray (i.toNat * m)).run P w' = .ok (if ag then .agg ((vs.drop (i.toNat * m)).take m).toArray else ((vs.drop (i.toNat * m)).take m).getD 0 undef) w' := by
      cases ag with
      | true => simp [part, run_isAgg' hu', hd, run_sizeOf' hj', hjn, List.extract_eq_take_drop]
      | false =>
        have hm : m = 1 := by simpa using h1
        subst hm
        have hlt : i.toNat * 1 < vs.length := by omega
        simp only [Nat.mul_one] at hlt
        simp [part, run_isAgg' hu', hd, hlt, List.getD_eq_getElem?_getD, List.getElem?_take]
    simp [execOp, ho, hvx, h2, Instr.index, asIntOf, run_underlying hu, run_sizeOf' hj, h0.1, h0.2, hsz, hrun]
theorem fill_mono {f g : Nat → Option (Nat × Nat)} (hfg : ∀ i p, f i = some p → g i = some p) : ∀ (vs : List (Nat × Value)) (cells r : Array Value), Instr.fill f cells vs = some r → Instr.fill g cells vs = some r
  | [], cells, r, h => by simpa [Instr.fill] using h
  | (i, v) :: vs, cells, r, h => by
    simp only [Instr.fill] at h ⊢
    cases hp : f i with
    | none => rw [hp] at h; simp at h
    | some p =>
      rw [hp] at h
      rw [hfg i p hp]
      simp only at h ⊢
      split at h
      · cases h
      · rename_i hc
        rw [if_neg hc]
        exact fill_mono hfg vs _ _ h
theorem pv_build_arr (T : TT P) {t : TypeId} {parts : Array (Nat × Operand)} {z : Value} {n e m : Nat} {ys : List (Nat × AV)} {cs0 cs : List AV} (ho : o.op = .build t parts) (hz : f2 T.zer t = some z) (ht : f2 T.arr t = some (n, e, m)) (hcs : z.cells.toList.map AV.v = cs0) (hp : BParts s parts.toList ys)
    (hf : FillA ((List.range n).map fun i => (i * m, m)) cs0 ys cs) : PV P o s (.ag cs) := fun w S a hs => by
  subst hcs
  have h1 := zOk_at T.zerOk hz
  obtain ⟨i, hi, hiz⟩ := Option.map_eq_some_iff.1 h1
  obtain ⟨j, hu, hj, hsz, hne⟩ := T.arr_at ht
  obtain ⟨hl, hv⟩ := hp.eq (w := w) (S := S) hs
  obtain ⟨cells, hfill, hrel⟩ := fill_rel hf z.cells _ (.lits _) hl hv
  have hfill2 := fill_mono (g := fun i => some (i * m, m)) (fun i p h => by
    simp only [List.getElem?_toArray, List.getElem?_map, Option.map_eq_some_iff] at h
    obtain ⟨q, hq, rfl⟩ := h
    have := List.getElem?_eq_some_iff.1 hq
    obtain ⟨h1, h2⟩ := this
    simp at h2
    rw [h2]) _ _ _ hfill
  refine ⟨.agg cells, fun w' => ?_, .ag (vs := cells.toList) hrel.1 hrel.2⟩
  have hmap : (parts.map fun p => (p.1, a.eval p.2)).toList = parts.toList.map fun p => (p.1, a.eval p.2) := by simp
  have hmap' : (Array.map (fun x => match x with | (i, x) => (i, a.eval x)) parts) = (parts.map fun p => (p.1, a.eval p.2)) := rfl
  simp only [execOp, ho, hmap', Instr.build, Sem.run_bind, zeroValue, typeInfo, run_program, hi, hiz, Result.andThen_ok, Sem.run_pure, run_underlying hu, run_sizeOf' hj, hsz, hmap, hfill2]
/-- what a call returned, if it is a plain value, may be looked up by later loads -/
theorem awt_lit {P : Program} {N : Nat} {ops : Array Oper} {so s : Slots} {ks h : List Ent} {Q : Exit → Slots → List Ent → Prop} {r : Go.Proofs.Ytlpknbneilgjkaa.PT} {x : Value} (d : Nat) (hd : look s d = some (.v x)) (K : AWT P N ops ((d, .v x) :: so) ks r Q s h) : AWT P N ops so ks r Q s h :=
  fun B w0 S0 w S a hs hso hks hl hsz hS hk => K B w0 S0 w S a hs (fun e y hy => by
    simp only [look] at hy
    by_cases c : Nat.beq d e = true
    · have e1 : d = e := Nat.eq_of_beq_eq_true c
      rw [c] at hy
      simp only [cond_true, Option.some.injEq, if_true] at hy
      subst hy
      subst e1
      obtain ⟨u, hu, hr⟩ := hs.slots d _ hd
      rw [hr.lit_inv] at hu
      exact ⟨x, hu, .v x⟩
    · simp only [Bool.not_eq_true] at c
      rw [c] at hy
      simp only [cond_false, Bool.false_eq_true, if_false] at hy
      exact hso e y hy) hks hl hsz hS hk
end
end Go.Tl
end
section
namespace Go.Proofs.Ytlpknbneilgjkaa
open Go Go.RowKit Go.Tl
set_option linter.unusedVariables false
set_option linter.unusedSimpArgs false
def fRows (f : Nat → Int) (m : Nat) : List (List AV) := (List.range m).map fun k => intRow (f k)
theorem fRows_eq (f : Nat → Int) (m : Nat) : fRows f m = ((List.range m).map f).map intRow := by simp [fRows]
theorem fRows_len (f : Nat → Int) (m : Nat) : (fRows f m).length = m := by simp [fRows]
theorem fRows_at {f : Nat → Int} {m j : Nat} (hj : j < m) : ((fRows f m).getD j [])[0]? = some (intA (f j)) := by
  simp [fRows, List.getD_eq_getElem?_getD, hj, intRow]
theorem fRows_step (f : Nat → Int) (m : Nat) : fRows f (m + 1) = fRows f m ++ [[intA (f m)]] := by
  simp only [fRows]; rw [List.range_succ, List.map_append]; rfl
theorem fRows_set {f g : Nat → Int} {m j : Nat} {v : Int} (hj : j < m) (hg : ∀ k, k < m → g k = if k = j then v else f k) : (fRows f m).set j (spA ((fRows f m).getD j []) 0 [intA v]) = fRows g m := by
  have e : spA ((fRows f m).getD j []) 0 [intA v] = intRow v := by simp [fRows, List.getD_eq_getElem?_getD, hj, intRow, spA]
  rw [e]
  refine List.ext_getElem? fun k => ?_
  rw [List.getElem?_set]
  simp only [fRows, List.length_map, List.length_range, List.getElem?_map]
  by_cases hk : k < m
  · rw [List.getElem?_range hk]
    have := hg k hk
    by_cases e : j = k
    · subst e; simp [hj, this]
    · rw [if_neg e, Option.map_some, Option.map_some, this, if_neg (fun h => e h.symm)]
  · rw [List.getElem?_eq_none (l := List.range m) (by simp; omega)]
    simp; omega
theorem fRows_tree {f : Nat → Int} {xs : List Int} {m : Nat} (h : xs = (List.range m).map f) : ∀ k, k < m → (fRows f m).getD k [] = ((fun k => [.sc (.int .i64 (xs.getD k 0))]) k : List Tr).map AV.ofTr := fun k hk => by
  subst h
  simp [fRows, List.getD_eq_getElem?_getD, hk, intRow, AV.ofTr]
end Go.Proofs.Ytlpknbneilgjkaa
end
section
namespace Go.Tl
open Go Go.RowKit
set_option linter.unusedVariables false
set_option linter.unusedSimpArgs false
theorem wu64 {x : Int} (h : 0 ≤ x ∧ x < 18446744073709551616) : IntKind.u64.wrap x = x := by
  simp [IntKind.wrap, IntKind.signed, IntKind.bits]
  omega
section
variable {P : Program} {o : Oper} {s : Slots} {t t' : TypeId} {x z : Operand} {a b c : Int}
theorem pv_shl {k : IntKind} (ho : o.op = .binOp .shl t x z t') (hx : evA s x = some (.v (.int .i64 a))) (hz : evA s z = some (.v (.int k b))) (h0 : 0 ≤ b) (hc : IntKind.i64.wrap (a * 2 ^ (min b.toNat 64)) = c) : PV P o s (.v (.int .i64 c)) :=
  pv_bin ho hx hz (fun w => by
    subst hc
    have : ¬ b < 0 := by omega
    simp [go_sem, Op.shift, this, IntKind.bits])
theorem pv_shr {k : IntKind} (ho : o.op = .binOp .shr t x z t') (hx : evA s x = some (.v (.int .i64 a))) (hz : evA s z = some (.v (.int k b))) (h0 : 0 ≤ b) (hc : a.fdiv (2 ^ (min b.toNat 64)) = c) : PV P o s (.v (.int .i64 c)) :=
  pv_bin ho hx hz (fun w => by
    subst hc
    have : ¬ b < 0 := by omega
    simp [go_sem, Op.shift, this, IntKind.bits])
theorem pv_and (ho : o.op = .binOp .and t x z t') {m n : Nat} (hx : evA s x = some (.v (.int .i64 (m : Int)))) (hz : evA s z = some (.v (.int .i64 (n : Int)))) (hm : m < 1000000) (hn : n < 1000000) : PV P o s (.v (.int .i64 ((m &&& n : Nat) : Int))) :=
  pv_bin ho hx hz (fun w => by
    have h1 : (m &&& n) ≤ m := Nat.and_le_left
    have e : IntKind.i64.wrap (((BitVec.ofInt 64 (m : Int)) &&& (BitVec.ofInt 64 (n : Int))).toNat : Int) = ((m &&& n : Nat) : Int) := by
      have : ((BitVec.ofInt 64 (m : Int)) &&& (BitVec.ofInt 64 (n : Int))).toNat = m &&& n := by
        rw [BitVec.ofInt_natCast, BitVec.ofInt_natCast, BitVec.toNat_and, BitVec.toNat_ofNat, BitVec.toNat_ofNat, Nat.mod_eq_of_lt (by omega), Nat.mod_eq_of_lt (by omega)]
      rw [this]
      exact wr64 (by omega)
    simp [go_sem, Op.intBits, IntKind.bits]
    exact e)
theorem pv_or (ho : o.op = .binOp .or t x z t') {m n : Nat} (hx : evA s x = some (.v (.int .i64 (m : Int)))) (hz : evA s z = some (.v (.int .i64 (n : Int)))) (hm : m < 2 ^ 20) (hn : n < 2 ^ 20) : PV P o s (.v (.int .i64 ((m ||| n : Nat) : Int))) :=
  pv_bin ho hx hz (fun w => by
    have h1 : (m ||| n) < 2 ^ 20 := Nat.or_lt_two_pow hm hn
    have e : IntKind.i64.wrap (((BitVec.ofInt 64 (m : Int)) ||| (BitVec.ofInt 64 (n : Int))).toNat : Int) = ((m ||| n : Nat) : Int) := by
      have : ((BitVec.ofInt 64 (m : Int)) ||| (BitVec.ofInt 64 (n : Int))).toNat = m ||| n := by
        rw [BitVec.ofInt_natCast, BitVec.ofInt_natCast, BitVec.toNat_or, BitVec.toNat_ofNat, BitVec.toNat_ofNat, Nat.mod_eq_of_lt (by omega), Nat.mod_eq_of_lt (by omega)]
      rw [this]
      exact wr64 (by omega)
    simp [go_sem, Op.intBits, IntKind.bits]
    exact e)
end
/-- a bit, as the program asks for it -/
theorem bit_fdiv (m : Nat) {i : Int} {j : Nat} (hi : i = (j : Int)) (hj : j ≤ 64) : (m : Int).fdiv (2 ^ (min i.toNat 64)) = ((m / 2 ^ j : Nat) : Int) := by
  subst hi
  rw [Int.toNat_natCast, Nat.min_eq_left hj]
  have : ((2 : Int) ^ j) = ((2 ^ j : Nat) : Int) := by simp
  rw [this, Int.fdiv_eq_ediv_of_nonneg _ (Int.natCast_nonneg _)]
  rfl
theorem bit_rem (m : Nat) : (m : Int).tmod 2 = ((m % 2 : Nat) : Int) := rfl
theorem bit_dec (m j : Nat) : decide (((m / 2 ^ j % 2 : Nat) : Int) = 1) = m.testBit j := by
  rw [Nat.testBit_eq_decide_div_mod_eq]
  exact decide_eq_decide.2 (by omega)
theorem shl_one {i : Int} {j : Nat} (hi : i = (j : Int)) (hj : j ≤ 20) : IntKind.i64.wrap (1 * 2 ^ (min i.toNat 64)) = ((2 ^ j : Nat) : Int) := by
  subst hi
  rw [Int.toNat_natCast, Nat.min_eq_left (by omega), Int.one_mul]
  have : ((2 : Int) ^ j) = ((2 ^ j : Nat) : Int) := by simp
  rw [this]
  have h2 : 2 ^ j ≤ 2 ^ 20 := Nat.pow_le_pow_right (by omega) hj
  generalize 2 ^ j = q at *
  exact wr64 (by omega)
end Go.Tl
end
