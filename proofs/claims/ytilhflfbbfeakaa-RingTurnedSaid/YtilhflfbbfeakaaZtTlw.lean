/- Joined texts: Bas, Tlw. -/
import Derived.Test.YtilhflfbbfeakaaTL
import Derived.WalkKit
import Derived.WalkSpells
import Derived.Lib.Hide
import Derived.Deep.QuietTactic
import Derived.BigQuiet
import Derived.ChangeSame
import Derived.ChangeSlices
import Derived.ChangeShapes
import Derived.Test.YtilhflfbbfeakaaGTx
section
section
section
namespace Go.Proofs.Ytilhflfbbfeakaa
open Go.RowKit
set_option linter.unusedVariables false

/-- cells of a slice of integers -/
def IntsAt (w : World) (a : Option Addr) (xs : List Int) : Prop :=
  ∀ k, k < xs.length → ∃ b off, a = some ⟨b, off, none⟩ ∧ w.cell? ⟨b, off + k, none⟩ = some (.int .i64 (xs.getD k 0))

def RowsAt (w : World) (a : Option Addr) (xs : List (List Int)) : Prop :=
  ∀ k, k < xs.length → ∃ b off pa pc, a = some ⟨b, off, none⟩ ∧ w.cell? ⟨b, off + k, none⟩ = some (.slice pa (xs.getD k []).length pc) ∧ IntsAt w pa (xs.getD k [])

theorem cell_below {w w' : World} {p : Addr} {v : Value} (hb : Below w.heap.size w w') (h : w.cell? p = some v) : w'.cell? p = some v :=
  (hb.cell (World.block_lt_of_cell? _ _ h)).trans h

theorem IntsAt.below {w w' : World} {a : Option Addr} {xs : List Int} (h : IntsAt w a xs) (hb : Below w.heap.size w w') : IntsAt w' a xs := fun k hk => by
  obtain ⟨b, off, e, c⟩ := h k hk
  exact ⟨b, off, e, cell_below hb c⟩
theorem RowsAt.below {w w' : World} {a : Option Addr} {xs : List (List Int)} (h : RowsAt w a xs) (hb : Below w.heap.size w w') : RowsAt w' a xs := fun k hk => by
  obtain ⟨b, off, pa, pc, e, c, d⟩ := h k hk
  exact ⟨b, off, pa, pc, e, cell_below hb c, d.below hb⟩
def inB (n lo hi : Int) : Bool := decide (lo ≤ n ∧ n ≤ hi)
theorem all_getD {α : Type} {d : α} {l : List α} {p : α → Bool} : l.all p = true ↔ ∀ k, k < l.length → p (l.getD k d) = true := by
  rw [List.all_eq_true]
  constructor
  · intro h k hk
    rw [List.getD_eq_getElem?_getD, List.getElem?_eq_getElem hk]
    exact h _ (List.getElem_mem hk)
  · intro h x hx
    obtain ⟨k, hk, rfl⟩ := List.getElem_of_mem hx
    have := h k hk
    rw [List.getD_eq_getElem?_getD, List.getElem?_eq_getElem hk] at this
    exact this
end Go.Proofs.Ytilhflfbbfeakaa
end
section
namespace Go.Proofs.Ytilhflfbbfeakaa
set_option linter.unusedVariables false

end Go.Proofs.Ytilhflfbbfeakaa
end
section
namespace Go.Proofs.Ytilhflfbbfeakaa
open Go.RowKit
set_option linter.unusedVariables false
set_option linter.unusedSimpArgs false
end Go.Proofs.Ytilhflfbbfeakaa
end
section
namespace Go.Proofs.Ytilhflfbbfeakaa
open Go.RowKit
set_option linter.unusedVariables false
end Go.Proofs.Ytilhflfbbfeakaa
end
section
namespace Go.Proofs.Ytilhflfbbfeakaa
open Go.RowKit
set_option linter.unusedVariables false
end Go.Proofs.Ytilhflfbbfeakaa
end

end
section
section
namespace Go.Proofs.Ytilhflfbbfeakaa
open Go.RowKit
set_option linter.unusedVariables false

theorem take_succ_getD {α : Type} {l : List α} {k : Nat} (d : α) (h : k < l.length) : l.take (k + 1) = l.take k ++ [l.getD k d] := by
  rw [List.take_succ_eq_append_getElem h, List.getD_eq_getElem?_getD, List.getElem?_eq_getElem h]; rfl

def sumI : List Int → Int
  | [] => 0
  | x :: l => x + sumI l
theorem sumI_append (l m : List Int) : sumI (l ++ m) = sumI l + sumI m := by
  induction l with
  | nil => simp [sumI]
  | cons x l ih => simp [sumI, ih]; omega
theorem sumI_bd (l : List Int) (B : Int) (h : ∀ x ∈ l, -B ≤ x ∧ x ≤ B) : -(B * l.length) ≤ sumI l ∧ sumI l ≤ B * l.length := by
  induction l with
  | nil => simp [sumI]
  | cons x l ih =>
    have h1 := h x (by simp)
    have h2 := ih (fun y hy => h y (by simp [hy]))
    simp only [sumI, List.length_cons, Int.natCast_add, Int.cast_ofNat_Int]
    rw [Int.mul_add]; omega
theorem getD_mem {α : Type} {l : List α} {k : Nat} {d : α} (h : k < l.length) : l.getD k d ∈ l := by
  rw [List.getD_eq_getElem?_getD, List.getElem?_eq_getElem h]
  exact List.getElem_mem h

end Go.Proofs.Ytilhflfbbfeakaa
end
section
namespace Go.Proofs.Ytilhflfbbfeakaa
open Go.RowKit
set_option linter.unusedVariables false

end Go.Proofs.Ytilhflfbbfeakaa
end
section
namespace Go.Proofs.Ytilhflfbbfeakaa
open Go.RowKit
set_option linter.unusedVariables false

end Go.Proofs.Ytilhflfbbfeakaa
end
section
namespace Go.Proofs.Ytilhflfbbfeakaa
open Go.RowKit
set_option linter.unusedVariables false

end Go.Proofs.Ytilhflfbbfeakaa
end
section
namespace Go.Proofs.Ytilhflfbbfeakaa
open Go.RowKit
set_option linter.unusedVariables false

end Go.Proofs.Ytilhflfbbfeakaa
end
section
namespace Go.Proofs.Ytilhflfbbfeakaa
open Go.RowKit
set_option linter.unusedVariables false

end Go.Proofs.Ytilhflfbbfeakaa
end

end
section
section
namespace Go.Proofs.Ytilhflfbbfeakaa
open Go Go.RowKit Go.Tl
set_option linter.unusedVariables false
section
variable {w : World} {S : Nat → Prop}
theorem ag_inv {cs : List AV} {v : Value} (h : VRel w S (.ag cs) v) : ∃ vs : List Value, v = .agg vs.toArray ∧ VRels w S cs vs := by
  cases h with | ag hl h => exact ⟨_, rfl, hl, h⟩
theorem rels1 {x : AV} {r : List AV} {vs : List Value} (h : VRels w S (x :: r) vs) : ∃ v us, vs = v :: us ∧ VRel w S x v ∧ VRels w S r us := by
  cases vs with
  | nil => have := h.1; simp at this
  | cons v us => exact ⟨v, us, rfl, h.2 0 x v rfl rfl, by have := h.1; simpa using this, fun j a b ha hb => h.2 (j + 1) a b (by simpa using ha) (by simpa using hb)⟩
theorem rels0 {vs : List Value} (h : VRels w S [] vs) : vs = [] := List.length_eq_zero_iff.1 h.1.symm
end
theorem pcall_below {P : Program} {f : Nat} {args : List AV} {R : AV → Prop}
    (h : ∀ (w : World) (S : Nat → Prop) (vs : List Value), VRels w S args vs → Calls P f vs.toArray w fun e w' => ∃ v r, e = .returned v ∧ R r ∧ Below w.heap.size w w' ∧ VRel w' (fun b => S b ∨ (w.heap.size ≤ b ∧ b < w'.heap.size)) r v) : PCall P f args R := fun w S vs hlt hh hv =>
  (h w S vs hv).mono fun e w' ⟨v, r, e1, hr, hb, hvr⟩ => ⟨v, _, r, [], e1, ⟨hr, rfl⟩, hvr, ⟨hb.os, hb.tape, hb.output, hb.size, fun b hlt _ => hb.block b hlt, fun b hb => .inl hb, fun b hb => by rcases hb with h | h; exact .inl h; exact .inr (.inl h.1)⟩,
    fun b h => by rcases h with h | h; exact Nat.lt_of_lt_of_le (hlt b h) hb.size; exact h.2, HRel.nil, fun e he => (by cases he)⟩
abbrev noneA : AV := .v (.slice none 0 0)
end Go.Proofs.Ytilhflfbbfeakaa
namespace Go.Proofs.Ytilhflfbbfeakaa
open Go Go.RowKit Go.Tl
set_option linter.unusedVariables false
set_option linter.unusedSimpArgs false
theorem rows_tree {α : Type} {d : α} (xs : List α) (row : α → List AV) (f : α → List Tr) (h : ∀ x, row x = (f x).map AV.ofTr) : ∀ k, k < xs.length → (xs.map row).getD k [] = ((fun k => f (xs.getD k d)) k).map AV.ofTr := fun k hk => by
  simp [List.getD_eq_getElem?_getD, hk, h]
theorem rows_step {α : Type} {d : α} {xs : List α} {k : Nat} (row : α → List AV) (hk : k < xs.length) : (xs.take (k + 1)).map row = (xs.take k).map row ++ [row (xs.getD k d)] := by
  rw [take_succ_getD d hk, List.map_append]; rfl
theorem inB_iff {n lo hi : Int} : inB n lo hi = true ↔ lo ≤ n ∧ n ≤ hi := by simp [inB]
end Go.Proofs.Ytilhflfbbfeakaa
end
section
namespace Go.Proofs.Ytilhflfbbfeakaa
open Go Go.RowKit Go.ChangeShapes
set_option linter.unusedVariables false
set_option linter.unusedSimpArgs false
theorem list_of {α : Type} [Inhabited α] {n : Nat} {R : Nat → α → Prop} (h : ∀ i, i < n → ∃ x, R i x) : ∃ l : List α, l.length = n ∧ ∀ i, i < n → R i (l.getD i default) := by
  classical
  refine ⟨(List.range n).map fun i => if hi : i < n then Classical.choose (h i hi) else default, by simp, fun i hi => ?_⟩
  have e : ((List.range n).map fun i => if hi : i < n then Classical.choose (h i hi) else default).getD i default = Classical.choose (h i hi) := by
    simp [List.getD_eq_getElem?_getD, hi]
  rw [e]
  exact Classical.choose_spec (h i hi)
section
variable {H : Type} {enc : TypeId × Value → H} {P : Program} {w : World} {base : Nat} {spare : Nat → Bool} {held : Bool}
theorem open_slice {α : Type} [Inhabited α] {t e : TypeId} {sz fuel : Nat} {cs : List Value} {x : DataW H × List MemPlace} (ht : P.underlying t = some (.slice e)) (hsz : P.cellsOf e = sz) (hpos : 0 < sz) {R : (Nat → Value) → α → Prop}
    (hR : ∀ (fuel : Nat) (cs : List Value) (y : DataW H × List MemPlace), DataW.trod enc P w base spare held fuel e cs = some y → cs.length = sz → ∃ r : α, R (fun j => cs.getD j undef) r)
    (h : DataW.trod enc P w base spare held fuel t cs = some x) :
    ∃ (a : Option Addr) (c : Nat) (l : List α), cs = [.slice a l.length c] ∧ l.length ≤ maxLen ∧ ∀ k, k < l.length → ∃ b off val, a = some ⟨b, off, none⟩ ∧ (∀ j, j < sz → w.cell? ⟨b, off + k * sz + j, none⟩ = some (val j)) ∧ R val (l.getD k default) := by
  rcases DataW.trod_slice ht h with ⟨rfl, _⟩ | ⟨a, len, cap, elems, rest, n, _, rfl, _, hb, hl, hm, hlen, hel, _, _⟩
  · exact ⟨none, 0, [], rfl, Nat.zero_le _, fun k hk => absurd hk (Nat.not_lt_zero _)⟩
  have hspot : 0 < len → a.spot = none := fun h0 => by
    have h1 := hel 0 h0
    rw [hsz, List.getElem?_eq_getElem (by omega), Option.bind_eq_some_iff] at h1
    obtain ⟨cs1, hc1, hy1⟩ := h1
    obtain ⟨_, hl1, hcell⟩ := World.cells?_some hc1
    have g0 := hcell 0 hpos
    rw [List.getElem?_eq_getElem (by omega)] at g0
    simpa [Addr.add] using World.cell?_spot g0
  have each : ∀ i, i < len → ∃ r : α, ∃ b off val, some a = some ⟨b, off, none⟩ ∧ (∀ j, j < sz → w.cell? ⟨b, off + i * sz + j, none⟩ = some (val j)) ∧ R val r := fun i hi => by
    have h1 := hel i hi
    rw [hsz, List.getElem?_eq_getElem (by omega), Option.bind_eq_some_iff] at h1
    obtain ⟨cs1, hc1, hy1⟩ := h1
    obtain ⟨_, hl1, hcell⟩ := World.cells?_some hc1
    obtain ⟨r, hr⟩ := hR n cs1 _ hy1 hl1
    obtain ⟨b, off, spot⟩ := a
    have hsp : spot = none := hspot (by omega)
    subst hsp
    refine ⟨r, b, off, fun j => cs1.getD j undef, rfl, fun j hj => ?_, hr⟩
    have g := hcell j hj
    rw [List.getElem?_eq_getElem (by omega)] at g
    have e2 : cs1.getD j undef = cs1[j]'(by omega) := by simp [List.getD_eq_getElem?_getD, show j < cs1.length by omega]
    show _ = some (cs1.getD j undef)
    rw [e2, ← g]
    congr 1
    unfold Addr.add
    split <;> split <;> simp_all
  obtain ⟨l, hll, hl2⟩ := list_of each
  exact ⟨some a, cap, l, by rw [hll], by omega, fun k hk => hl2 k (by omega)⟩
end
end Go.Proofs.Ytilhflfbbfeakaa
end
section
namespace Go.Proofs.Ytilhflfbbfeakaa
open Go Go.RowKit Go.Tl
set_option linter.unusedVariables false
section
variable {w : World}
theorem sl_in {a : Option Addr} {c sz n : Nat} {f : Nat → List Tr} (hl : ∀ k, k < n → (f k).length = sz) (hsz : 0 < sz)
    (h : ∀ k, k < n → ∃ (b off : Nat) (val : Nat → Value), a = some ⟨b, off, none⟩ ∧ (∀ j, j < sz → w.cell? ⟨b, off + k * sz + j, none⟩ = some (val j)) ∧ ∀ (j : Nat) (x : Tr), (f k)[j]? = some x → Tl.TRel w (fun b => b < w.heap.size) x (val j)) :
    Tl.TRel w (fun b => b < w.heap.size) (.sl false sz n f) (.slice a n c) := by
  have h' : ∀ k, ∃ val : Nat → Value, k < n → ∃ b off : Nat, a = some ⟨b, off, none⟩ ∧ (∀ j, j < sz → w.cell? ⟨b, off + k * sz + j, none⟩ = some (val j)) ∧ ∀ (j : Nat) (x : Tr), (f k)[j]? = some x → Tl.TRel w (fun b => b < w.heap.size) x (val j) := fun k => by
    by_cases hk : k < n
    · obtain ⟨b, off, val, h1, h2, h3⟩ := h k hk
      exact ⟨val, fun _ => ⟨b, off, h1, h2, h3⟩⟩
    · exact ⟨fun _ => undef, fun h => absurd h hk⟩
  obtain ⟨V, hV⟩ := Classical.axiomOfChoice h'
  refine .sl V (fun h => by cases h) hl (fun k hk => ?_) (fun k j x hk hx => ?_)
  · obtain ⟨b, off, h1, h2, _⟩ := hV k hk
    exact ⟨b, off, h1, World.block_lt_of_cell? _ _ (h2 0 hsz), h2⟩
  · obtain ⟨b, off, _, _, h3⟩ := hV k hk
    exact h3 j x hx
theorem rels_cons {S : Nat → Prop} {x : AV} {v : Value} {xs : List AV} {vs : List Value} (h : VRel w S x v) (hs : VRels w S xs vs) : VRels w S (x :: xs) (v :: vs) :=
  ⟨by simp [hs.1], fun j a b ha hb => by
    cases j with
    | zero => simp at ha hb; subst ha; subst hb; exact h
    | succ j => exact hs.2 j a b (by simpa using ha) (by simpa using hb)⟩
theorem rels_nil {S : Nat → Prop} : VRels w S [] [] := ⟨rfl, fun j x y h => by simp at h⟩
theorem ag_rel {S : Nat → Prop} {cs : List AV} {vs : List Value} (h : VRels w S cs vs) : VRel w S (.ag cs) (.agg vs.toArray) := .ag h.1 h.2
end
theorem pcall_calls {P : Program} {f : Nat} {args : List AV} {R : AV → Prop} (h : PCall P f args R) {w : World} {vs : List Value} (hv : VRels w (fun b => b < w.heap.size) args vs) {v : Value} (hR : ∀ r, R r → r = .v v) :
    Calls P f vs.toArray w fun e w' => e = .returned v ∧ Below w.heap.size w w' :=
  (h w _ vs (fun _ h => h) HRel.nil hv).mono fun e w' ⟨u, S', r, h', e1, ⟨hr, _⟩, hvr, hx, _⟩ => by
    have := hR r hr
    subst this
    rw [hvr.lit_inv] at e1
    exact ⟨e1, hx.os, hx.tape, hx.output, hx.size, fun b hb => hx.keep b hb (fun ⟨e, he, _⟩ => by cases he)⟩
end Go.Proofs.Ytilhflfbbfeakaa
end
section
namespace Go.Proofs.Ytilhflfbbfeakaa
open Go Go.RowKit Go.ChangeShapes Go.Tl
set_option linter.unusedVariables false
theorem wf_in {k : IntKind} {n : Int} (h : (Lit.int k n).wf = true) : k.min ≤ n ∧ n ≤ k.max := by simpa [Lit.wf] using h
section
variable {P : Program} {H : Type} {enc : TypeId × Value → H} {w : World} {base : Nat} {spare : Nat → Bool} {held : Bool}
end
end Go.Proofs.Ytilhflfbbfeakaa
end

end
section
section
namespace Go.Proofs.Ytilhflfbbfeakaa
open Go.RowKit
set_option linter.unusedVariables false

end Go.Proofs.Ytilhflfbbfeakaa
end
section
namespace Go.Tl
open Go Go.RowKit
set_option linter.unusedVariables false
end Go.Tl
namespace Go.Proofs.Ytilhflfbbfeakaa
open Go Go.RowKit Go.Tl
set_option linter.unusedVariables false
end Go.Proofs.Ytilhflfbbfeakaa
end
section
namespace Go.Proofs.Ytilhflfbbfeakaa
open Go.RowKit
set_option linter.unusedVariables false
set_option linter.unusedSectionVars false
section

end
end Go.Proofs.Ytilhflfbbfeakaa
end

end
namespace Go.Tl
open Go Go.RowKit
end Go.Tl
namespace Go.Proofs.Ytilhflfbbfeakaa
open Go Go.RowKit Go.Tl
set_option linter.unusedVariables false
set_option linter.unusedSimpArgs false
set_option maxRecDepth 100000
set_option maxHeartbeats 4000000
end Go.Proofs.Ytilhflfbbfeakaa

namespace Go.Tl
open Go Go.RowKit
theorem pv_makeFunc_v {P : Program} {o : Oper} {s : Slots} {g : Fn} {first caps : Array Operand} {fs cs : List Value} (ho : o.op = .makeFunc g first caps) (hf : first.toList.map (evA s) = (fs.map AV.v).map some) (hc : caps.toList.map (evA s) = (cs.map AV.v).map some) :
    PV P o s (.v (.func g fs.toArray cs.toArray)) := fun w S a hs => by
  have h1 := VRels.lits_inv (hs.evals hf)
  have h2 := VRels.lits_inv (hs.evals hc)
  refine ⟨.func g (first.map a.eval) (caps.map a.eval), fun w' => by simp [execOp, ho, Instr.makeFunc], ?_⟩
  have e1 : first.map a.eval = (first.toList.map a.eval).toArray := by rw [← Array.toList_map]
  have e2 : caps.map a.eval = (caps.toList.map a.eval).toArray := by rw [← Array.toList_map]
  rw [e1, e2, h1, h2]
  exact .v _
end Go.Tl
namespace Go.Proofs.Ytilhflfbbfeakaa
open Go Go.RowKit Go.Tl
set_option linter.unusedVariables false
set_option linter.unusedSimpArgs false
set_option maxRecDepth 100000
set_option maxHeartbeats 4000000
end Go.Proofs.Ytilhflfbbfeakaa
end
section
section
namespace Go.Tl
open Go Go.RowKit
set_option linter.unusedVariables false
set_option linter.unusedSimpArgs false
section
variable {P : Program} {o : Oper} {s : Slots} {h : List Ent}
section
variable {t t' : TypeId} {x z : Operand} {k : IntKind} {a b c : Int}
theorem pv_leq (ho : o.op = .binOp .leq t x z t') (hx : evA s x = some (.v (.int k a))) (hz : evA s z = some (.v (.int k b))) : PV P o s (.v (.bool (decide (a ≤ b)))) :=
  pv_bin ho hx hz (fun w => by simp [go_sem])
end
theorem pv_min2 {x y : Operand} {t1 t2 : TypeId} {k : IntKind} {a b : Int} (ho : o.op = .call { callee := .builtin .min, args := #[x, y], argTypes := #[t1, t2] }) (hx : evA s x = some (.v (.int k a))) (hy : evA s y = some (.v (.int k b))) :
    PV P o s (.v (.int k (min a b))) := fun w S a' hs =>
  ⟨_, fun w' => by
    have e : (if b < a then b else a) = min a b := by rw [Int.min_def]; split <;> split <;> omega
    simp [execOp, ho, resolve, invoke, builtin, Builtin.min_, Builtin.min2, hs.lit hx, hs.lit hy, e], .v _⟩
end
end Go.Tl
end
section
namespace Go.Proofs.Ytilhflfbbfeakaa
open Go
set_option linter.unusedVariables false
set_option linter.unusedSectionVars false
section
variable {md : Region.Mode} {ops : Array Oper}
section
variable {listed : Array Bool} {L : Nat} (hL : BitsL ops.size listed L) (hlow : Low ops.size L)
include hL hlow
end
end
end Go.Proofs.Ytilhflfbbfeakaa
namespace Go.Tl
open Go Go.RowKit
open Go.Proofs.Ytilhflfbbfeakaa (PT treeN tree_of)
set_option linter.unusedVariables false
end Go.Tl
end
section
namespace Go.Tl
open Go Go.RowKit
open Go.Proofs.Ytilhflfbbfeakaa (PT ptOk treeB kindOf isPre Closed isPre_listed getD_tf)
set_option linter.unusedVariables false
section
variable {P : Program} {ops : Array Oper} {Q : Exit → Act → World → Prop} {ro : Option Nat}
variable {md : Region.Mode} {S : World → Prop}
end
end Go.Tl
namespace Go.Tl
open Go Go.RowKit
set_option linter.unusedVariables false
section
variable {w w' : World} {S S' : Nat → Prop}
end
end Go.Tl
namespace Go.Tl
open Go Go.RowKit
set_option linter.unusedVariables false
section
variable {B : Base} {N : Nat} {w : World} {S : Nat → Prop} {s : Slots} {h : List Ent} {a : Act}
end
section
variable {P : Program}
section
variable (T : TT P)
end
end
end Go.Tl
namespace Go.Tl
open Go Go.RowKit
set_option linter.unusedVariables false
set_option linter.unusedSimpArgs false
section
variable {P : Program} {o : Oper} {s : Slots} {h : List Ent}
section
variable {t t' : TypeId} {x z : Operand} {k : IntKind} {a b c : Int}
end
theorem pv_neg {t : TypeId} {x : Operand} {k : IntKind} {a c : Int} (ho : o.op = .unOp .neg t x) (hx : evA s x = some (.v (.int k a))) (hc : k.wrap (0 - a) = c) : PV P o s (.v (.int k c)) := pv_un ho hx (fun w => by subst hc; simp [Op.unary, go_sem])
end
end Go.Tl
namespace Go.Tl
open Go Go.RowKit
set_option linter.unusedVariables false
set_option linter.unusedSimpArgs false
section
variable {P : Program} {N : Nat} {ro : Option Nat} {o : Oper} {md : Nat → Prop} {s : Slots} {h : List Ent} {K : Slots → List Ent → Prop} {Q : Exit → Slots → List Ent → Prop}
end
end Go.Tl
namespace Go.Tl
open Go Go.RowKit
set_option linter.unusedVariables false
set_option linter.unusedSimpArgs false
section
variable {P : Program} {N : Nat} {o : Oper} {md : Nat → Prop} {s : Slots} {h : List Ent} {K : Slots → List Ent → Prop}
end
end Go.Tl
namespace Go.Tl
open Go Go.RowKit
set_option linter.unusedVariables false
set_option linter.unusedSimpArgs false
section
variable {B : Base} {N : Nat} {w : World} {S : Nat → Prop} {s : Slots} {h h1 : List Ent} {a : Act}
end
theorem awl_ghost {P : Program} {N : Nat} {ops : Array Oper} {l : List Oper} {Q : Exit → Slots → List Ent → Prop} {s s' : Slots} {h h' : List Ent} (G : Ghost s h s' h') (H : AWL P N ops l Q s' h') : AWL P N ops l Q s h := fun B w S a hs => by
  obtain ⟨S', hs', _⟩ := G B N w S a hs
  exact H B w S' a hs'
section
variable {P : Program} {N : Nat} {o : Oper} {md : Nat → Prop} {s : Slots} {h h1 : List Ent} {K : Slots → List Ent → Prop}
end
end Go.Tl
namespace Go.Tl
open Go Go.RowKit
set_option linter.unusedVariables false
set_option linter.unusedSimpArgs false
section
variable {P : Program} {N : Nat} {o : Oper} {md : Nat → Prop} {s : Slots} {h h1 : List Ent} {K : Slots → List Ent → Prop}
end
end Go.Tl
namespace Go.Tl
open Go Go.RowKit
set_option linter.unusedVariables false
set_option linter.unusedSimpArgs false
section
variable {P : Program} {N : Nat} {o : Oper} {md : Nat → Prop} {s : Slots} {h h1 : List Ent} {K : Slots → List Ent → Prop}
end
end Go.Tl
namespace Go.Tl
open Go Go.RowKit
set_option linter.unusedVariables false
section
variable {P : Program} {N : Nat} {ro : Option Nat} {o : Oper} {s : Slots} {h : List Ent} {Q : Exit → Slots → List Ent → Prop} {ops : Array Oper} {rest : List Oper}
variable {K : Slots → List Ent → Prop} {id i : Nat} {I : Nat → Slots → List Ent → Prop} {n : Nat}
theorem body_n {T : TT P} {fn : Func} {R : AV → List Ent → Prop} {ys : List AV} {h' : List Ent} (h1 : resL T s h fn.results.toList ys) (h2 : SubH h' h) (h3 : R (resA ys) h') : bodyQ T fn R .normal s h := ⟨s, h, .refl, ys, h1, h', h2, h3⟩
end
section
variable {P : Program} {N : Nat} {o : Oper} {s : Slots} {h : List Ent}
end
end Go.Tl
namespace Go.Tl
open Go Go.RowKit
open Go.Proofs.Ytilhflfbbfeakaa (PT treeB)
set_option linter.unusedVariables false
section
variable {P : Program} {N : Nat} {ops : Array Oper} {so s : Slots} {ks h : List Ent} {Q : Exit → Slots → List Ent → Prop} {r : PT} {i d : Nat} {o : Oper}
end
end Go.Tl
namespace Go.Tl
open Go Go.RowKit
set_option linter.unusedVariables false
section
variable {P : Program} {N : Nat} {o : Oper} {md : Nat → Prop} {s : Slots} {h h1 : List Ent} {K : Slots → List Ent → Prop}
end
end Go.Tl
namespace Go.Tl
open Go Go.RowKit
set_option linter.unusedVariables false
set_option linter.unusedSimpArgs false
section
variable {P : Program} {mt : TypeId} {n : Nat}
variable {N : Nat} {o : Oper} {md : Nat → Prop} {s : Slots} {h : List Ent} {K : Slots → List Ent → Prop}
end
end Go.Tl
namespace Go.Tl
open Go Go.RowKit
set_option linter.unusedVariables false
set_option linter.unusedSimpArgs false
section
variable {P : Program} {N : Nat} {o : Oper} {s : Slots}
variable {md : Nat → Prop} {h : List Ent} {K : Slots → List Ent → Prop}
end
end Go.Tl
namespace Go.Tl
open Go Go.RowKit
set_option linter.unusedVariables false
section
variable {P : Program} {N : Nat} {ro : Option Nat} {o : Oper} {s : Slots} {h : List Ent} {Q : Exit → Slots → List Ent → Prop} {ops : Array Oper} {rest : List Oper}
variable {mt : TypeId} {n : Nat} {md : Nat → Prop} {K : Slots → List Ent → Prop}
end
end Go.Tl
namespace Go.Tl
open Go Go.RowKit
theorem own_cl {g : Nat} {T : TypeId} {cs : List AV} : Own [.cl g T cs] g := ⟨_, List.mem_singleton.2 rfl, rfl⟩
section
variable {P : Program} {N : Nat} {o : Oper} {s : Slots} {h h1 : List Ent} {K : Slots → List Ent → Prop} {mt n : Nat}
theorem st_store_o (T : TT P) {t n g off : Nat} {ag : Bool} {x y : Operand} {u : AV} {T' : TypeId} {cs us cs' : List AV} {h' : List Ent} (ho : o.op = .store t x y) (hx : evA s x = some (.v (.pointer (some ⟨g, off, none⟩)))) (hy : evA s y = some u)
    (ht : f2 T.siz t = some (n, ag)) (hok : okA u = true) (hu : cellsA u = us) (hone : us.all oneA = true) (hn : Nat.beq us.length n = true) (hd : o.dst = none) (hp : Repl h (.cl g T' cs) (.cl g T' cs') h') (hcs : Sp cs off us cs') (hK : K s h') : AOp P N o (Own [.cl g T' cs]) s h K := st_store T ho hx hy ht hok hu hone hn hd hp hcs own_cl hK
end
end Go.Tl
namespace Go.Tl
open Go Go.RowKit
set_option linter.unusedVariables false
set_option linter.unusedSimpArgs false
section
variable {P : Program} {N : Nat} {o : Oper} {md : Nat → Prop} {s : Slots} {h : List Ent} {K : Slots → List Ent → Prop}
end
end Go.Tl
end
section
namespace Go.Tl
open Go Go.RowKit
end Go.Tl
namespace Go.Tl
open Go Go.RowKit
end Go.Tl
end
end
