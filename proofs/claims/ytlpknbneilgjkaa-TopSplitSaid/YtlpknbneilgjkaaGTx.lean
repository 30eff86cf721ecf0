/- Joined texts: Tlx, Px, Tly, Rg. -/
import Derived.Test.YtlpknbneilgjkaaTL
import Derived.OrdersIn
import Derived.OwnWalkIn
import Derived.LoopNIn
import Derived.RangeFuncLeaves
import Derived.RangeFuncRecord
import Derived.WalkKit
import Derived.Lib.Hide
import Derived.Deep.AppendLies
import Derived.Scope
import Derived.Laws.CopyRow
import Derived.Laws.MakeOwn
import Derived.Laws.OwnMore
import Derived.IntWalk
import Derived.ChangeKeysEq
import Derived.Laws.Cover3
section
namespace Go.Tl
open Go Go.RowKit
set_option linter.unusedVariables false
set_option linter.unusedSimpArgs false
section
variable {P : Program} {o : Oper} {s : Slots} {h : List Ent}
section
variable {t t' : TypeId} {x z : Operand} {k : IntKind} {a b c : Int}
theorem pv_rem (ho : o.op = .binOp .rem t x z t') (hx : evA s x = some (.v (.int k a))) (hz : evA s z = some (.v (.int k b))) (h0 : b ≠ 0) (hc : a.tmod b = c) : PV P o s (.v (.int k c)) :=
  pv_bin ho hx hz (fun w => by subst hc; simp [go_sem, h0])
theorem pv_geq (ho : o.op = .binOp .geq t x z t') (hx : evA s x = some (.v (.int k a))) (hz : evA s z = some (.v (.int k b))) : PV P o s (.v (.bool (decide (b ≤ a)))) :=
  pv_bin ho hx hz (fun w => by simp [go_sem])
end
theorem pv_convert {src dst : TypeId} {x : Operand} {k k' : IntKind} {a c : Int} {d : TypeDesc} (ho : o.op = .convert src dst x) (hx : evA s x = some (.v (.int k a))) (hs : P.underlying src = some d) (hd : P.underlying dst = some (.int k')) (hc : k'.wrap a = c) : PV P o s (.v (.int k' c)) := fun w S a hs' =>
  ⟨.int k' c, fun w' => by subst hc; simp [execOp, ho, hs'.lit hx, convert, run_underlying hs, run_underlying hd, Conv.intToInt], .v _⟩
end
theorem lv_elt_pt {P : Program} {o : Oper} {s : Slots} {h : List Ent} (T : TT P) {t n sz m k off : Nat} {x : Operand} {f : Nat → List Tr} {zs ys : List AV} (ho : o.op = .load t x) (hx : evA s x = some (.elt sz m f k off)) (ht : f2 T.siz t = some (n, true))
    (hl : Nat.ble (off + n) (f k).length = true) (hy : OfTrs (f k) zs) (hd : (zs.drop off).take n = ys) : LV P o s h none (.ag ys) := by
  have h1 := lv_elt (h := h) T ho hx ht (Nat.le_of_ble_eq_true hl) (.inl rfl)
  have : ldA true n (((f k).map AV.ofTr).drop off) = .ag ys := by rw [← hd, ← hy.eq]; simp only [ldA, if_true]
  rwa [this] at h1
theorem pcall_weak {P : Program} {f : Nat} {args args' : List AV} {R : AV → Prop} (h : PCall P f args R) (hle : AVsLe args' args) : PCall P f args' R := fun w S vs h1 h2 h3 => h w S vs h1 h2 (hle.rels h3)
end Go.Tl
end
section
namespace Go.Proofs.Ytlpknbneilgjkaa
open Go
set_option linter.unusedVariables false
set_option linter.unusedSectionVars false
section
variable {md : Region.Mode} {ops : Array Oper}
def bitsOf (md : Region.Mode) (ms : List Nat) (o : Oper) : Nat := o.after.foldl (fun m e => if Region.binds md e then m ||| (ms.getD e.on 0 ||| 1 <<< e.on) else m) 0
/-- for each operation, the bits of what comes before it -/
def masks (md : Region.Mode) : List Oper → List Nat → List Nat
  | [], ms => ms
  | o :: r, ms => masks md r (ms ++ [bitsOf md ms o])
def readyN (md : Region.Mode) (ops : Array Oper) (L : Nat) : List Nat :=
  (List.range ops.size).filter fun i => !L.testBit i && ((ops[i]?).map (·.after.all fun e => !Region.binds md e || L.testBit e.on)).getD false
def freeN (md : Region.Mode) (ops : Array Oper) (L i : Nat) : Bool :=
  match ops[i]? with
  | none => false
  | some oi => (List.range ops.size).all fun j => j == i || L.testBit j || match ops[j]? with
      | some oj => oj.after.any (fun e => Region.binds md e && e.on == i) || oi.apart ops oj
      | none => true
def readyI (md : Region.Mode) (ops : Array Oper) (L i : Nat) : Bool := !L.testBit i && ((ops[i]?).map (·.after.all fun e => !Region.binds md e || L.testBit e.on)).getD false
def ptOkN (md : Region.Mode) (ops : Array Oper) (ms : List Nat) (full : List (Nat × Nat)) : PT → Nat → Nat → Bool → Bool
  | .stop, n, L, _ => n == 0 && (readyN md ops L).isEmpty
  | .op i 0 r, n + 1, L, live => Nat.blt i ops.size && readyI md ops L i && freeN md ops L i && ptOkN md ops ms full r n (L ||| 1 <<< i) live
  | .op i 1 r, n + 1, L, live => live && Nat.blt i ops.size && readyI md ops L i && freeN md ops L i && full.all (fun jk => jk.2 != 3 || (ms.getD jk.1 0).testBit i) && ptOkN md ops ms full r n (L ||| 1 <<< i) live
  | .op i 2 r, n + 1, L, live => (readyN md ops L == [i]) && ptOkN md ops ms full r n (L ||| 1 <<< i) live
  | .op i 3 r, n + 1, L, _ => (readyN md ops L == [i]) && (kindOf full i == 3) && ptOkN md ops ms full r n (L ||| 1 <<< i) false
  | .fork i r j s, n + 1, L, live => (readyN md ops L == [i, j]) && ptOkN md ops ms full r n (L ||| 1 <<< i) live && ptOkN md ops ms full s n (L ||| 1 <<< j) live
  | _, _, _, _ => false
def treeN (ops : Array Oper) (full : List (Nat × Nat)) (t : PT) : Bool := Region.noSelect ops && ptOkN .any ops (masks .any ops.toList []) full t ops.size 0 true
theorem isPre_mono {f g k i : Nat} (hfg : f ≤ g) (h : isPre md ops f k i = true) : isPre md ops g k i = true := by
  induction f generalizing g i with
  | zero => simp [isPre] at h
  | succ f ih =>
    obtain ⟨g, rfl⟩ : ∃ g', g = g' + 1 := ⟨g - 1, by omega⟩
    unfold isPre at h ⊢
    split at h
    · cases h
    · rename_i o ho
      obtain ⟨e, he, hb⟩ := Array.any_eq_true'.1 h
      simp only [Bool.and_eq_true, Bool.or_eq_true, beq_iff_eq] at hb
      refine Array.any_eq_true'.2 ⟨e, he, ?_⟩
      simp only [Bool.and_eq_true, Bool.or_eq_true, beq_iff_eq]
      exact ⟨hb.1, hb.2.imp id (ih (by omega))⟩
theorem bit_or {L i j : Nat} : (L ||| 1 <<< i).testBit j = (L.testBit j || decide (i = j)) := by
  rw [Nat.testBit_or, Nat.one_shiftLeft, Nat.testBit_two_pow]
theorem bitsOf_fold {ms : List Nat} {l : List Edge} {m k : Nat} (h : (l.foldl (fun m e => if Region.binds md e then m ||| (ms.getD e.on 0 ||| 1 <<< e.on) else m) m).testBit k = true) :
    m.testBit k = true ∨ ∃ e ∈ l, Region.binds md e = true ∧ ((ms.getD e.on 0).testBit k = true ∨ e.on = k) := by
  induction l generalizing m with
  | nil => exact .inl h
  | cons e l ih =>
    simp only [List.foldl_cons] at h
    rcases ih h with h1 | ⟨e', he', hb⟩
    · by_cases hbe : Region.binds md e = true
      · rw [if_pos hbe, Nat.testBit_or, bit_or] at h1
        simp only [Bool.or_eq_true, decide_eq_true_eq] at h1
        rcases h1 with h1 | h1
        · exact .inl h1
        · exact .inr ⟨e, List.mem_cons_self, hbe, h1⟩
      · rw [if_neg hbe] at h1
        exact .inl h1
    · exact .inr ⟨e', List.mem_cons_of_mem _ he', hb⟩
theorem masks_ok : ∀ (l : List Oper) (ms : List Nat) (pre : List Oper), ops.toList = pre ++ l → ms.length = pre.length → (∀ i k, (ms.getD i 0).testBit k = true → isPre md ops (i + 1) k i = true) →
    ∀ i k, ((masks md l ms).getD i 0).testBit k = true → isPre md ops (i + 1) k i = true := by
  intro l
  induction l with
  | nil => intro ms pre _ _ h; exact h
  | cons o r ih =>
    intro ms pre he hl h
    refine ih (ms ++ [bitsOf md ms o]) (pre ++ [o]) (by rw [he]; simp) (by simp [hl]) fun i k hb => ?_
    rcases Nat.lt_trichotomy i ms.length with hi | hi | hi
    · have e : (ms ++ [bitsOf md ms o]).getD i 0 = ms.getD i 0 := by simp [List.getD_eq_getElem?_getD, List.getElem?_append_left hi]
      rw [e] at hb
      exact h i k hb
    · subst hi
      have e : (ms ++ [bitsOf md ms o]).getD ms.length 0 = bitsOf md ms o := by simp [List.getD_eq_getElem?_getD]
      rw [e] at hb
      have ho : ops[ms.length]? = some o := by
        rw [← Array.getElem?_toList, he, hl]; simp
      unfold bitsOf at hb
      rw [← Array.foldl_toList] at hb
      rcases bitsOf_fold hb with h1 | ⟨e', he', hbe, h1⟩
      · simp at h1
      · unfold isPre
        rw [ho]
        refine Array.any_eq_true'.2 ⟨e', by simpa using he', ?_⟩
        simp only [Bool.and_eq_true, Bool.or_eq_true, beq_iff_eq]
        refine ⟨hbe, ?_⟩
        rcases h1 with h1 | h1
        · right
          have hlt : e'.on < ms.length := by
            refine Decidable.byContradiction fun hn => ?_
            rw [List.getD_eq_getElem?_getD, List.getElem?_eq_none (by omega)] at h1
            simp at h1
          exact isPre_mono (by omega) (h _ _ h1)
        · exact .inl h1
    · rw [List.getD_eq_getElem?_getD, List.getElem?_eq_none (by simp; omega)] at hb
      simp at hb
def BitsL (n : Nat) (listed : Array Bool) (L : Nat) : Prop := listed.size = n ∧ ∀ j, j < n → listed[j]? = some (L.testBit j)
theorem BitsL.set {n : Nat} {listed : Array Bool} {L i : Nat} (h : BitsL n listed L) (hi : i < n) : BitsL n (listed.setIfInBounds i true) (L ||| 1 <<< i) := by
  refine ⟨by simp [h.1], fun j hj => ?_⟩
  rw [Array.getElem?_setIfInBounds, bit_or]
  by_cases e : i = j
  · subst e; simp [h.1, hi]
  · rw [if_neg e, h.2 j hj]; simp [e]
theorem BitsL.t {n : Nat} {listed : Array Bool} {L j : Nat} (h : BitsL n listed L) (hj : j < n) : listed.getD j true = L.testBit j := by
  rw [Array.getD_eq_getD_getElem?, h.2 j hj]; rfl
theorem BitsL.f {n : Nat} {listed : Array Bool} {L j : Nat} (h : BitsL n listed L) (hb : L.testBit j = true → j < n) : listed.getD j false = L.testBit j := by
  rw [Array.getD_eq_getD_getElem?]
  rcases Nat.lt_or_ge j n with hj | hj
  · rw [h.2 j hj]; rfl
  · rw [Array.getElem?_eq_none (by rw [h.1]; exact hj)]
    cases e : L.testBit j
    · rfl
    · exact absurd (hb e) (by omega)
def Low (n L : Nat) : Prop := ∀ j, L.testBit j = true → j < n
theorem Low.set {n L i : Nat} (h : Low n L) (hi : i < n) : Low n (L ||| 1 <<< i) := fun j hj => by
  rw [bit_or] at hj
  simp only [Bool.or_eq_true, decide_eq_true_eq] at hj
  rcases hj with hj | hj
  · exact h j hj
  · omega
section
variable {listed : Array Bool} {L : Nat} (hL : BitsL ops.size listed L) (hlow : Low ops.size L)
include hL hlow
theorem readyI_eq {i : Nat} (hi : i < ops.size) : readyI md ops L i = (!listed.getD i true && ((ops[i]?).map (·.after.all fun e => !Region.binds md e || listed.getD e.on false)).getD false) := by
  unfold readyI
  rw [hL.t hi]
  have : (fun e : Edge => !Region.binds md e || L.testBit e.on) = (fun e => !Region.binds md e || listed.getD e.on false) := funext fun e => by rw [hL.f (hlow _)]
  rw [this]
theorem readyN_eq : readyN md ops L = Region.ready md ops listed := by
  refine List.filter_congr fun i hi => ?_
  exact readyI_eq hL hlow (List.mem_range.1 hi)
theorem freeN_eq {i : Nat} : freeN md ops L i = Region.free md ops listed i := by
  unfold freeN Region.free
  cases ops[i]? with
  | none => rfl
  | some oi =>
    show (List.range ops.size).all _ = (List.range ops.size).all _
    refine Bool.eq_iff_iff.2 ?_
    simp only [List.all_eq_true, List.mem_range]
    exact ⟨fun h j hj => by have := h j hj; rw [← hL.t hj] at this; exact this, fun h j hj => by have := h j hj; rw [hL.t hj] at this; exact this⟩
end
theorem kind_all {full : List (Nat × Nat)} {p : Nat → Bool} (h : full.all (fun jk => jk.2 != 3 || p jk.1) = true) (j : Nat) : (p j || kindOf full j != 3) = true := by
  induction full with
  | nil => simp [kindOf]
  | cons x r ih =>
    obtain ⟨i, k⟩ := x
    simp only [List.all_cons, Bool.and_eq_true] at h
    unfold kindOf
    by_cases e : i = j
    · rw [if_pos e]; subst e; have := h.1; simp only [Bool.or_eq_true] at this ⊢; exact this.symm
    · rw [if_neg e]; exact ih h.2
theorem ptOk_of {ms : List Nat} {full : List (Nat × Nat)} (hms : ∀ i k, i < ops.size → (ms.getD i 0).testBit k = true → isPre md ops ops.size k i = true) :
    ∀ (t : PT) (n L : Nat) (listed : Array Bool) (live : Bool), BitsL ops.size listed L → Low ops.size L → ptOkN md ops ms full t n L live = true → ptOk md ops full t n listed live = true := by
  intro t
  induction t with
  | stop =>
    intro n L listed live hL hlow h
    simp only [ptOkN, Bool.and_eq_true] at h
    simp only [ptOk, Bool.and_eq_true]
    rw [← readyN_eq hL hlow]; exact h
  | op i k r ih =>
    intro n L listed live hL hlow h
    match n, k with
    | 0, 0 => simp [ptOkN] at h
    | 0, 1 => simp [ptOkN] at h
    | 0, 2 => simp [ptOkN] at h
    | 0, k + 3 => simp [ptOkN] at h
    | n + 1, 0 =>
      simp only [ptOkN, Bool.and_eq_true, Nat.blt_eq] at h
      obtain ⟨⟨⟨hi, hr⟩, hf⟩, h⟩ := h
      have hrd : (Region.ready md ops listed).contains i = true := by
        rw [← readyN_eq hL hlow]; simp only [List.contains_iff_mem, readyN, List.mem_filter, List.mem_range]; exact ⟨hi, hr⟩
      simp only [ptOk, Bool.and_eq_true]
      exact ⟨⟨hrd, by rw [← freeN_eq hL hlow]; exact hf⟩, ih _ _ _ _ (hL.set hi) (hlow.set hi) h⟩
    | n + 1, 1 =>
      simp only [ptOkN, Bool.and_eq_true, Nat.blt_eq] at h
      obtain ⟨⟨⟨⟨⟨hlv, hi⟩, hr⟩, hf⟩, hk⟩, h⟩ := h
      have hrd : (Region.ready md ops listed).contains i = true := by
        rw [← readyN_eq hL hlow]; simp only [List.contains_iff_mem, readyN, List.mem_filter, List.mem_range]; exact ⟨hi, hr⟩
      simp only [ptOk, Bool.and_eq_true]
      refine ⟨⟨⟨⟨hlv, hrd⟩, by rw [← freeN_eq hL hlow]; exact hf⟩, ?_⟩, ih _ _ _ _ (hL.set hi) (hlow.set hi) h⟩
      refine List.all_eq_true.2 fun j hj => ?_
      have := kind_all (p := fun j => (ms.getD j 0).testBit i) hk j
      simp only [Bool.or_eq_true] at this ⊢
      exact this.imp (hms j i (List.mem_range.1 hj)) id
    | n + 1, 2 =>
      simp only [ptOkN, Bool.and_eq_true] at h
      have hi : i < ops.size := by
        have : i ∈ readyN md ops L := by rw [eq_of_beq h.1]; exact List.mem_singleton.2 rfl
        exact List.mem_range.1 (List.mem_filter.1 this).1
      simp only [ptOk, Bool.and_eq_true]
      exact ⟨by rw [← readyN_eq hL hlow]; exact h.1, ih _ _ _ _ (hL.set hi) (hlow.set hi) h.2⟩
    | n + 1, 3 =>
      simp only [ptOkN, Bool.and_eq_true] at h
      have hi : i < ops.size := by
        have : i ∈ readyN md ops L := by rw [eq_of_beq h.1.1]; exact List.mem_singleton.2 rfl
        exact List.mem_range.1 (List.mem_filter.1 this).1
      simp only [ptOk, Bool.and_eq_true]
      exact ⟨⟨by rw [← readyN_eq hL hlow]; exact h.1.1, h.1.2⟩, ih _ _ _ _ (hL.set hi) (hlow.set hi) h.2⟩
    | n + 1, k + 4 => simp [ptOkN] at h
  | fork i r j s ihr ihs =>
    intro n L listed live hL hlow h
    match n with
    | 0 => simp [ptOkN] at h
    | n + 1 =>
      simp only [ptOkN, Bool.and_eq_true] at h
      have hm : ∀ x, x ∈ [i, j] → x < ops.size := fun x hx => by
        rw [← eq_of_beq h.1.1] at hx
        exact List.mem_range.1 (List.mem_filter.1 hx).1
      have hi := hm i (by simp)
      have hj := hm j (by simp)
      simp only [ptOk, Bool.and_eq_true]
      exact ⟨⟨by rw [← readyN_eq hL hlow]; exact h.1.1, ihr _ _ _ _ (hL.set hi) (hlow.set hi) h.1.2⟩, ihs _ _ _ _ (hL.set hj) (hlow.set hj) h.2⟩
end
theorem tree_of {ops : Array Oper} {full : List (Nat × Nat)} {t : PT} (h : treeN ops full t = true) : treeB ops full t = true := by
  simp only [treeN, Bool.and_eq_true] at h
  simp only [treeB, Bool.and_eq_true]
  refine ⟨h.1, ptOk_of (fun i k hi hb => ?_) t _ 0 _ _ ⟨by simp, fun j hj => by simp [hj]⟩ (fun j hj => by simp at hj) h.2⟩
  exact isPre_mono (by omega) (masks_ok ops.toList [] [] rfl rfl (fun i k h => by simp at h) i k hb)
end Go.Proofs.Ytlpknbneilgjkaa
namespace Go.Tl
open Go Go.RowKit
open Go.Proofs.Ytlpknbneilgjkaa (PT treeN tree_of)
set_option linter.unusedVariables false
theorem awp_treeN {P : Program} {N : Nat} {ops : Array Oper} {s : Slots} {h : List Ent} {Q : Exit → Slots → List Ent → Prop} (T : TT P) {ro : Option Nat} {id : Nat} (full : List (Nat × Nat)) (t : PT) (ks : List Ent) (hn : ops.toList.all ndO = true) (hok : treeN ops full t = true) (hks : SubH ks h) (H : AWT P N ops s ks t Q s h) : AWP P N ro (.region id ops true) Q s h :=
  awp_tree T full t ks hn (tree_of hok) hks H
end Go.Tl
end
section
namespace Go.Tl
open Go Go.RowKit
open Go.Proofs.Ytlpknbneilgjkaa (PT ptOk treeB kindOf isPre Closed isPre_listed getD_tf)
set_option linter.unusedVariables false
section
variable {P : Program} {ops : Array Oper} {Q : Exit → Act → World → Prop} {ro : Option Nat}
variable {md : Region.Mode} {S : World → Prop}
end
end Go.Tl
namespace Go.Tl
open Go Go.RowKit
set_option linter.unusedVariables false
section
variable {w w' : World} {S S' : Nat → Prop}
end
end Go.Tl
namespace Go.Tl
open Go Go.RowKit
set_option linter.unusedVariables false
section
variable {B : Base} {N : Nat} {w : World} {S : Nat → Prop} {s : Slots} {h : List Ent} {a : Act}
end
section
variable {P : Program}
section
variable (T : TT P)
end
end
end Go.Tl
namespace Go.Tl
open Go Go.RowKit
set_option linter.unusedVariables false
set_option linter.unusedSimpArgs false
section
variable {P : Program} {o : Oper} {s : Slots} {h : List Ent}
section
variable {t t' : TypeId} {x z : Operand} {k : IntKind} {a b c : Int}
end
theorem pv_makeFunc_av {g : Fn} {first caps : Array Operand} {fs cs : List AV} (ho : o.op = .makeFunc g first caps) (hf : first.toList.map (evA s) = fs.map some) (hc : caps.toList.map (evA s) = cs.map some) :
    PV P o s (.fn g fs cs) := fun w S a hs => by
  have h1 := hs.evals hf
  have h2 := hs.evals hc
  refine ⟨.func g (first.map a.eval) (caps.map a.eval), fun w' => by simp [execOp, ho, Instr.makeFunc], ?_⟩
  have e1 : first.map a.eval = (first.toList.map a.eval).toArray := by rw [← Array.toList_map]
  have e2 : caps.map a.eval = (caps.toList.map a.eval).toArray := by rw [← Array.toList_map]
  rw [e1, e2]
  exact .fn h1.1 h1.2 h2.1 h2.2

end
end Go.Tl
namespace Go.Tl
open Go Go.RowKit
set_option linter.unusedVariables false
set_option linter.unusedSimpArgs false
section
variable {P : Program} {N : Nat} {ro : Option Nat} {o : Oper} {md : Nat → Prop} {s : Slots} {h : List Ent} {K : Slots → List Ent → Prop} {Q : Exit → Slots → List Ent → Prop}
theorem awp_scope {c : Code} (H : AWP P N none c (scopeQ Q) s h) : AWP P N none (.scope c) Q s h := fun B w S a hs =>
  wpIn_wide.2 (wp_scope_straight (Code.wp_mono (fun e a' w' hq => by
    obtain ⟨S', s', h', hq, hs'⟩ := hq
    cases e with
    | goto l => exact hq.elim
    | _ => exact ⟨S', s', h', hq, hs'⟩) (wpIn_wide.1 (H B w S a hs))))
theorem awp_label {l : Nat} (H : Q .normal s h) : AWP P N ro (.label l) Q s h := fun B w S a hs => wpIn_label ⟨S, s, h, H, hs⟩
end
end Go.Tl
namespace Go.Tl
open Go Go.RowKit
set_option linter.unusedVariables false
set_option linter.unusedSimpArgs false
section
variable {P : Program} {N : Nat} {o : Oper} {md : Nat → Prop} {s : Slots} {h : List Ent} {K : Slots → List Ent → Prop}
end
end Go.Tl
namespace Go.Tl
open Go Go.RowKit
set_option linter.unusedVariables false
set_option linter.unusedSimpArgs false
section
variable {B : Base} {N : Nat} {w : World} {S : Nat → Prop} {s : Slots} {h h1 : List Ent} {a : Act}
end
section
variable {P : Program} {N : Nat} {o : Oper} {md : Nat → Prop} {s : Slots} {h h1 : List Ent} {K : Slots → List Ent → Prop}
end
end Go.Tl
namespace Go.Tl
open Go Go.RowKit
set_option linter.unusedVariables false
set_option linter.unusedSimpArgs false
theorem flat_split {rows : List (List AV)} {sz : Nat} (h : ∀ r ∈ rows, r.length = sz) (k : Nat) (hk : k < rows.length) (r' : List AV) (hr : r'.length = sz) :
    (rows.set k r').flatten = rows.flatten.take (k * sz) ++ r' ++ rows.flatten.drop (k * sz + sz) := by
  induction rows generalizing k with
  | nil => simp at hk
  | cons c css ih =>
    have h0 := h c (by simp)
    cases k with
    | zero => simp [← h0]
    | succ k =>
      have h1 := ih (fun r hr => h r (by simp [hr])) k (by simpa using hk)
      have e : (k + 1) * sz = sz + k * sz := by rw [Nat.add_mul]; omega
      simp only [List.set_cons_succ, List.flatten_cons, h1]
      rw [e, List.take_append, List.drop_append, h0]
      rw [List.take_of_length_le (show c.length ≤ sz + k * sz by omega), List.drop_eq_nil_of_le (show c.length ≤ sz + k * sz + sz by omega)]
      simp only [List.nil_append, List.append_assoc]
      rw [show sz + k * sz - sz = k * sz by omega, show sz + k * sz + sz - sz = k * sz + sz by omega]
theorem sp_mid (A R C ys : List AV) (off : Nat) (ho : off + ys.length ≤ R.length) : spA (A ++ R ++ C) (A.length + off) ys = A ++ spA R off ys ++ C := by
  unfold spA
  rw [List.append_assoc A R C, List.take_append, List.drop_append, List.take_of_length_le (show A.length ≤ A.length + off by omega), List.drop_eq_nil_of_le (show A.length ≤ A.length + off + ys.length by omega)]
  rw [show A.length + off - A.length = off by omega, show A.length + off + ys.length - A.length = off + ys.length by omega]
  rw [List.take_append_of_le_length (by omega), List.drop_append_of_le_length ho]
  simp
theorem flat_sp {rows : List (List AV)} {sz : Nat} (h : ∀ r ∈ rows, r.length = sz) (k off : Nat) (hk : k < rows.length) (ys : List AV) (ho : off + ys.length ≤ sz) :
    (rows.set k (spA (rows.getD k []) off ys)).flatten = spA rows.flatten (k * sz + off) ys := by
  have hmem : rows.getD k [] ∈ rows := by rw [List.getD_eq_getElem?_getD, List.getElem?_eq_getElem hk]; exact List.getElem_mem hk
  have hlr := h _ hmem
  generalize hR : rows.getD k [] = R at *
  have hsp : (spA R off ys).length = sz := by simp only [spA, List.length_append, List.length_take, List.length_drop]; omega
  rw [flat_split h k hk _ hsp]
  have hfl : rows.flatten = rows.flatten.take (k * sz) ++ R ++ rows.flatten.drop (k * sz + sz) := by
    have h1 := flat_split h k hk R hlr
    rw [← h1, ← hR, List.getD_eq_getElem?_getD, List.getElem?_eq_getElem hk]
    simp
  have hlen : rows.flatten.length = rows.length * sz := by
    clear hk hfl hmem hlr ho hR hsp
    induction rows with
    | nil => simp
    | cons c css ih => simp only [List.flatten_cons, List.length_append, List.length_cons, Nat.add_mul, ih (fun r hr => h r (by simp [hr])), h c (by simp)]; omega
  have hks : k * sz ≤ rows.flatten.length := by
    rw [hlen]
    exact Nat.mul_le_mul_right _ (Nat.le_of_lt hk)
  have hA : (rows.flatten.take (k * sz)).length = k * sz := by rw [List.length_take]; omega
  have h2 := sp_mid (rows.flatten.take (k * sz)) R (rows.flatten.drop (k * sz + sz)) ys off (by omega)
  rw [← hfl, hA] at h2
  exact h2.symm

section
variable {P : Program} {N : Nat} {o : Oper} {md : Nat → Prop} {s : Slots} {h h1 : List Ent} {K : Slots → List Ent → Prop}
theorem aop_store_rp (T : TT P) {t n g off k len c E sz : Nat} {ag : Bool} {x y : Operand} {u : AV} {rows rows' : List (List AV)} {h' : List Ent} (ho : o.op = .store t x y) (hx : evA s x = some (.rp (.slice (some ⟨g, 0, none⟩) len c) sz k off)) (hy : evA s y = some u)
    (ht : f2 T.siz t = some (n, ag)) (hok : okA u = true) (hone : (cellsA u).all oneA = true) (hn : (cellsA u).length = n) (hd : o.dst = none) (hp : Repl h (.rw (.slice (some ⟨g, 0, none⟩) len c) E sz rows) (.rw (.slice (some ⟨g, 0, none⟩) len c) E sz rows') h')
    (hkl : k < rows.length) (hl : off + n ≤ sz) (hcs : rows.set k (spA (rows.getD k []) off (cellsA u)) = rows') (hmd : md g) (hK : K s h') : AOp P N o md s h K := fun B w S a hs Kr Qr hk => by
  obtain ⟨j, d, hj, hjn, hne, hu, hd'⟩ := T.siz_at ht
  have hv := hs.slots.eval hy
  have hxe := hs.slots.eval hx
  generalize hev : a.eval y = v at *
  generalize hex : a.eval x = p at *
  cases hxe with
  | rp =>
    have hmem : Ent.rw (.slice (some ⟨g, 0, none⟩) len c) E sz rows ∈ h := by obtain ⟨p, q, rfl, _⟩ := hp.split; simp
    obtain ⟨xs, hown, hr, hlr⟩ := hs.heap.ent _ hmem
    have hc := cellsA_rel hv hok
    have hcl : v.cells.toList.length = n := by rw [← hc.1]; exact hn
    have hones := ones_rel hc (by simpa [List.all_eq_true] using hone)
    have hvs : v.cells.size = v.cells.toList.length := by simp
    rcases hown.2 with ⟨e, _⟩ | ⟨g', cap, cur, e, hb0, hg, hcap, hml, hsz, htk⟩
    · simp at e
    · simp at e
      obtain ⟨rfl, hlen, rfl⟩ := e
      subst hlen
      have hsplit : k * sz + sz ≤ rows.length * sz := by
        calc k * sz + sz = (k + 1) * sz := by rw [Nat.add_mul]; omega
          _ ≤ rows.length * sz := Nat.mul_le_mul_right _ (by omega)
      have hcurlen : rows.length * sz ≤ cur.size := by rw [hsz]; exact Nat.mul_le_mul_right _ (by omega)
      have hst := run_storeCells_at P g (k * sz + off) E v.cells.toList 0 cur w hg (by omega) hones
      simp only [Nat.add_zero] at hst
      have hrun : (execOp a.eval o).run P w = .ok .skip (w.setRow g (cur.toList.take (k * sz + off) ++ v.cells.toList ++ cur.toList.drop (k * sz + off + v.cells.toList.length)).toArray) := by
        have hsz : v.cells.size = j.size := by rw [hjn, ← hcl]; simp
        have hst2 := hst
        simp at hst2
        simp [execOp, ho, hex, hev, Instr.storeAt, Instr.sureAddr, storeVar, run_sizeOf' hj, hsz]
        rw [hst2]
        simp [hsz]
      unfold wpX
      rw [hd] at hk
      rw [hrun, Oper.uponIn_skip, hd]
      generalize hnew : (cur.toList.take (k * sz + off) ++ v.cells.toList ++ cur.toList.drop (k * sz + off + v.cells.toList.length)).toArray = new at *
      have hgw := grown_setRow w g new
      have hkS : ∀ b, S b → (w.setRow g new).heap[b]? = w.heap[b]? := fun b hb => setRow_other w g b _ (fun e => hs.heap.off _ hmem g rfl (by rw [← e]; exact hb))
      have hnl : new.toList = cur.toList.take (k * sz + off) ++ v.cells.toList ++ cur.toList.drop (k * sz + off + v.cells.toList.length) := by rw [← hnew]
      have hll : (cellsA u).length = v.cells.toList.length := hc.1
      have hrows : rows'.length = rows.length := by rw [← hcs]; simp
      refine hk _ _ S _ _ hK ((hs.repl hp (.of hgw (by simp [Ent.blk, Value.ownBlock])) ⟨xs.take (k * sz + off) ++ v.cells.toList ++ xs.drop (k * sz + off + v.cells.toList.length), ⟨?_, .inr ⟨g, c, new, by rw [hrows], hb0, setRow_heap w g _ _ E _ hg, by rw [hrows]; exact hcap, hml, ?_, ?_⟩⟩, ?_, ?_⟩ (fun g' hg' => .inl hg')).putNone) ⟨by simp, fun b hb hnb => setRow_other w g b _ (fun e => hnb (by rw [e]; exact hmd)), fun _ h => h⟩
      · have := hown.1
        rw [hrows]
        simp only [List.length_append, List.length_take, List.length_drop]
        omega
      · rw [← Array.length_toList, hnl, ← hsz]
        simp only [List.length_append, List.length_take, List.length_drop, Array.length_toList]
        omega
      · rw [hnl, hrows, ← htk]
        have hfit : k * sz + off + v.cells.toList.length ≤ rows.length * sz := by omega
        rw [List.take_append, List.take_append, List.take_take, List.take_take]
        simp only [List.length_append, List.length_take, Array.length_toList]
        rw [List.take_of_length_le (show v.cells.toList.length ≤ _ by omega)]
        rw [List.drop_take]
        congr 2
        · congr 1
          omega
        · congr 1
          omega
      · subst hcs
        rw [flat_sp hlr k off hkl _ (by omega)]
        simp only [spA]
        rw [hll]
        exact ((hr.take _).append hc |>.append (hr.drop _)).mono (fun _ h => h) hkS
      · intro r hr'
        subst hcs
        rcases List.mem_or_eq_of_mem_set hr' with h2 | h2
        · exact hlr r h2
        · rw [h2]
          have hmemk : rows.getD k [] ∈ rows := by rw [List.getD_eq_getElem?_getD, List.getElem?_eq_getElem hkl]; exact List.getElem_mem hkl
          have := hlr _ hmemk
          simp only [spA, List.length_append, List.length_take, List.length_drop]
          omega
end
end Go.Tl
namespace Go.Tl
open Go Go.RowKit
set_option linter.unusedVariables false
set_option linter.unusedSimpArgs false
section
variable {P : Program} {N : Nat} {o : Oper} {md : Nat → Prop} {s : Slots} {h h1 : List Ent} {K : Slots → List Ent → Prop}
end
end Go.Tl
namespace Go.Tl
open Go Go.RowKit
set_option linter.unusedVariables false
section
variable {P : Program} {N : Nat} {ro : Option Nat} {o : Oper} {s : Slots} {h : List Ent} {Q : Exit → Slots → List Ent → Prop} {ops : Array Oper} {rest : List Oper}
variable {K : Slots → List Ent → Prop} {id i : Nat} {I : Nat → Slots → List Ent → Prop} {n : Nat}
theorem sco_x (H : Q (.exit i) s h) : scopeQ Q (.exit i) s h := H
theorem sco_r (H : Q .ret s h) : scopeQ Q .ret s h := H
end
section
variable {P : Program} {N : Nat} {o : Oper} {s : Slots} {h : List Ent}
end
end Go.Tl
namespace Go.Tl
open Go Go.RowKit
open Go.Proofs.Ytlpknbneilgjkaa (PT treeB)
set_option linter.unusedVariables false
section
variable {P : Program} {N : Nat} {ops : Array Oper} {so s : Slots} {ks h : List Ent} {Q : Exit → Slots → List Ent → Prop} {r : PT} {i d : Nat} {o : Oper}
theorem awt_sk2 {so' : Slots} (ho : ops[i]? = some o) (hw : Wf ops o s) (hd : o.dst = some d) (hN : Nat.blt d N = true) (hso' : ∀ e x, look so' e = some x → look so e = some x) (hn : look so' d = none) (K : AWT P N ops so' ks r Q ((d, .v undef) :: s) h) : AWT P N ops so ks (.op i 2 r) Q s h := fun B w0 S0 w S a hs hso hks hl hsz hS hk => by
  refine wpOX_of_if ho ?_
  rw [if_neg (by rw [hw.unwanted hs.slots]; simp), hd]
  have hso2 : SRel w0 S0 so' a.tmps := fun e x hx => hso e x (hso' e x hx)
  exact ⟨hk, K B w0 S0 w S _ (hs.put (.v _) (blt_lt hN)) (hso2.put0 (fun d' e => by cases e; exact hn)) hks hl hsz hS hk⟩
end
end Go.Tl
namespace Go.Tl
open Go Go.RowKit
set_option linter.unusedVariables false
section
variable {P : Program} {N : Nat} {o : Oper} {md : Nat → Prop} {s : Slots} {h h1 : List Ent} {K : Slots → List Ent → Prop}
end
end Go.Tl
namespace Go.Tl
open Go Go.RowKit
set_option linter.unusedVariables false
set_option linter.unusedSimpArgs false
section
variable {P : Program} {mt : TypeId} {n : Nat}
variable {N : Nat} {o : Oper} {md : Nat → Prop} {s : Slots} {h : List Ent} {K : Slots → List Ent → Prop}
end
end Go.Tl
namespace Go.Tl
open Go Go.RowKit
set_option linter.unusedVariables false
set_option linter.unusedSimpArgs false
section
variable {P : Program} {N : Nat} {o : Oper} {s : Slots}
variable {md : Nat → Prop} {h : List Ent} {K : Slots → List Ent → Prop}
theorem aop_make (T : TT P) {t e bt d n : Nat} {z : Value} {x y : Operand} (ho : o.op = .makeSlice t x y) (hd : o.dst = some d) (hN : Nat.blt d N = true) (ht : f2 T.elm t = some (e, 1, bt)) (hz : f2 T.zer e = some z) (hz1 : z.cells = #[z]) (hx : evA s x = some (intA n)) (hy : evA s y = some (intA n)) (hn : n ≤ 1000000) (hbt : Nat.ble bt 1000 = true)
    (hK : ∀ g, K ((d, .v (.slice (some ⟨g, 0, none⟩) n n)) :: s) (.rw (.slice (some ⟨g, 0, none⟩) n n) e 1 (List.replicate n [.v z]) :: h)) : AOp P N o md s h K := fun B w S a hs Kr Qr hk => by
  obtain ⟨j, hund, hj, hjs, hjb, hne⟩ := T.elm_at ht
  have h1 := zOk_at T.zerOk hz
  obtain ⟨i, hi, hiz⟩ := Option.map_eq_some_iff.1 h1
  rw [hj] at hi
  simp at hi
  subst hi
  have hbt' := Nat.le_of_ble_eq_true hbt
  have hmc : madeCells z.cells (n * j.size) = Array.replicate n z := by
    rw [hz1, hjs, Nat.mul_one]
    apply Array.ext
    · simp [madeCells]
    · intro q h1 h2
      simp [madeCells, Nat.mod_one]
  have hrun : (execOp a.eval o).run P w = .ok (.value (.slice (some ⟨w.heap.size, 0, none⟩) n n)) (w.alloc (.cells (Array.replicate n z) e)) := by
    have hb2 : (j.bytes : Int) * (n : Int) ≤ 281474976710656 := by
      rw [hjb]
      have : bt * n ≤ 1000000000 := Nat.le_trans (Nat.mul_le_mul hbt' hn) (by decide)
      rw [← Int.natCast_mul]
      omega
    have := run_make (P := P) w t e j z hund hj hiz .i64 .i64 n n (by omega) (by omega) hb2 (by omega)
    simp only [Int.toNat_natCast, hmc] at this
    simp [execOp, ho, hs.slots.lit hx, hs.slots.lit hy, this]
  unfold wpX
  rw [hd] at hk
  rw [hrun, Oper.uponIn_value, hd]
  have hold := fun b hb => alloc_old w (.cells (Array.replicate n z) e) b hb
  have hfl : (List.replicate n [AV.v z]).flatten = (List.replicate n z).map AV.v := by simp
  refine hk _ _ S _ _ (hK w.heap.size) ((hs.push (w' := w.alloc (.cells (Array.replicate n z) e)) (grw_alloc _ _) (e := .rw (.slice (some ⟨w.heap.size, 0, none⟩) n n) e 1 (List.replicate n [.v z])) ⟨List.replicate n z, ?_, by rw [hfl]; exact .lits _, fun r hr => by rw [(List.mem_replicate.1 hr).2]; rfl⟩ (fun g hg => by simp [Ent.blk, Value.ownBlock] at hg; omega)).put (.v _) (blt_lt hN)) (upd_push (by simp) hold)
  have := World.ownsRow_lit (base := 0) (e := e) (size := 1) w (Array.replicate n z) n (Nat.zero_le _) (by unfold maxLen; omega) (by simp)
  simpa using this
end
end Go.Tl
namespace Go.Tl
open Go Go.RowKit
set_option linter.unusedVariables false
section
variable {P : Program} {N : Nat} {ro : Option Nat} {o : Oper} {s : Slots} {h : List Ent} {Q : Exit → Slots → List Ent → Prop} {ops : Array Oper} {rest : List Oper}
variable {mt : TypeId} {n : Nat} {md : Nat → Prop} {K : Slots → List Ent → Prop}
end
end Go.Tl
namespace Go.Tl
open Go Go.RowKit
section
variable {P : Program} {N : Nat} {o : Oper} {s : Slots} {h h1 : List Ent} {K : Slots → List Ent → Prop} {mt n : Nat}
end
end Go.Tl
namespace Go.Tl
open Go Go.RowKit
set_option linter.unusedVariables false
set_option linter.unusedSimpArgs false
section
variable {P : Program} {N : Nat} {o : Oper} {md : Nat → Prop} {s : Slots} {h : List Ent} {K : Slots → List Ent → Prop}
end
end Go.Tl
end
section
namespace Go.Tl
open Go Go.RowKit
def orR : Option (Array Oper) → Option (Array Oper) → Option (Array Oper)
  | some x, _ => some x
  | none, y => y
def findR (n : Nat) : Code → Option (Array Oper)
  | .region id ops _ => if Nat.beq id n then some ops else none
  | .seq a b => orR (findR n a) (findR n b)
  | .block _ a => findR n a
  | .loop a => findR n a
  | .scope a => findR n a
  | .cond _ a b => orR (findR n a) (findR n b)
  | _ => none
def regF (f : Func) (n : Nat) : Option (Array Oper) := match f.body with
  | some c => findR n c
  | none => none
end Go.Tl
namespace Go.Tl
open Go Go.RowKit
/-- a cut at the end of a block that more code follows -/
theorem awp_cutB {P : Program} {N : Nat} {ro : Option Nat} {id : Nat} {x y : Code} {Q Q' : Exit → Slots → List Ent → Prop} {s : Slots} {h : List Ent} (M : Slots → List Ent → Prop) (H1 : AWP P N ro x (cutQ M) s h) (H2 : ∀ s' h', M s' h' → AWP P N ro y Q s' h') :
    AWP P N ro x (blockQ id (thenQ (AWP P N ro y Q) Q')) s h :=
  awp_mono H1 fun e s1 h1 ⟨he, s', h', hs, hh, hM⟩ => by
    subst he
    exact awp_weak hs hh (H2 s' h' hM)
end Go.Tl
end
section
namespace Go.Tl
open Go Go.RowKit
theorem tfA {a b : Bool} (h : a = b := by first | rfl | assumption | exact dT (by omega) | exact dF (by omega)) : a = b := h
theorem wtA {ops : Array Oper} {o : Oper} {s : Slots} (h : Wt ops o s := by first | exact wt_none rfl | exact wt_some' rfl rfl rfl rfl (by first | rfl | assumption | exact dT (by omega) | exact dF (by omega))) : Wt ops o s := h
theorem wtS {ops : Array Oper} {o : Oper} {s : Slots} (h : Wt ops o s := by exact wt_some' rfl rfl rfl rfl (by first | rfl | assumption | exact dT (by omega) | exact dF (by omega))) : Wt ops o s := h
theorem rcA {p : Prop} (h : p := by solve | repeat' constructor) : p := h
theorem ssA {p : Prop} (h : p := by first | ((repeat' (first | exact True.intro | refine ⟨rfl, ?_⟩)); all_goals fail) | fail) : p := h
theorem raA {p : Prop} (h : p := by first | rfl | assumption) : p := h
theorem scA {p : Prop} (h : p := by simp only [Value.cells, List.toList_toArray, List.map_cons, List.map_nil]; rfl) : p := h
theorem ixA {a b : Nat} (h : a = b := by first | exact (rfl : Int.toNat 0 = 0) | exact Int.toNat_natCast _ | rfl) : a = b := h
end Go.Tl
end
