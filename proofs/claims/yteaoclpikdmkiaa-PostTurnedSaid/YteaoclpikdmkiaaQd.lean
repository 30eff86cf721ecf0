/- Posts whose first orders are replaced: plain. -/
import Derived.Test.YteaoclpikdmkiaaQc
namespace Go.Tl
open Go Go.RowKit
theorem pv_nilCheck_rp {P : Program} {o : Oper} {s : Slots} {x : Operand} {v : Value} {sz k off : Nat} (ho : o.op = .nilCheck x) (hx : evA s x = some (.rp v sz k off)) : PV P o s (.rp v sz k off) := fun w S a hs => by
  have h := hs.eval hx
  generalize hev : a.eval x = u at *
  cases h with
  | rp => exact ⟨_, fun w' => by simp [execOp, ho, hev], .rp⟩
end Go.Tl
namespace Go.Proofs.Yteaoclpikdmkiaa
open Go Go.RowKit Go.Tl
set_option linter.unusedVariables false
set_option linter.unusedSimpArgs false
theorem ordsT_le {cp : Bool} (os : List OrdD) : TrLe (ordsT cp os) (ordsT false os) := .sl (fun h => by cases h) (fun k hk => ⟨rfl, fun j x x' h1 h2 => by rw [h1] at h2; cases h2; exact .refl _⟩)
theorem postA_le {cp : Bool} (p : PostD) : AVLe (postA cp p) (postA false p) := .ag (.cons (.t (ordsT_le _)) .nil)
theorem post_w (cp : Bool) (p : PostD) (hl : p.ords.length ≤ 1000) : PCall Try.prog 20 [postA cp p] (fun r => r = postA true p) := pcall_weak (post_p p hl) (.cons (postA_le _) .nil)
theorem ordOne (os : List OrdD) : ∀ k, k < os.length → ∀ u ∈ ordL (os.getD k default), oneA (AV.ofTr u) = true := fun k hk u hu => by
  simp only [ordL, List.mem_cons, List.not_mem_nil, or_false] at hu
  rcases hu with rfl | rfl | rfl | rfl | rfl <;> rfl
theorem ordRows_range (l : List OrdD) : ((List.range l.length).map fun k => (ordL (l.getD k default)).map AV.ofTr) = l.map ordRow := by
  refine List.ext_getElem (by simp) fun k h1 h2 => ?_
  simp at h1 h2
  simp [List.getD_eq_getElem?_getD, h1, ordL, ordRow, AV.ofTr]
/-- a post whose first orders are replaced -/
def mixF (p : PostD) (f : Nat → OrdD → OrdD) (k : Nat) : PostD := ⟨(List.range p.ords.length).map fun i => if i < k then f i (oAt p i) else oAt p i⟩
theorem mix_len (p : PostD) (f : Nat → OrdD → OrdD) (k : Nat) : (mixF p f k).ords.length = p.ords.length := by simp [mixF]
theorem mix_at {p : PostD} {f : Nat → OrdD → OrdD} {k i : Nat} (h : i < p.ords.length) : oAt (mixF p f k) i = if i < k then f i (oAt p i) else oAt p i := by
  show ((List.range p.ords.length).map fun i => if i < k then f i (oAt p i) else oAt p i).getD i default = _
  simp [List.getD_eq_getElem?_getD, h]
theorem mix_zero (p : PostD) (f : Nat → OrdD → OrdD) : (mixF p f 0).ords = p.ords := by
  refine List.ext_getElem (mix_len p f 0) fun i h1 h2 => ?_
  have := mix_at (f := f) (k := 0) h2
  rw [if_neg (Nat.not_lt_zero _)] at this
  simpa [List.getD_eq_getElem?_getD, h1, h2] using this
theorem mix_rows (p : PostD) (f : Nat → OrdD → OrdD) (k : Nat) : ((mixF p f k).ords.map ordRow).length = p.ords.length := by rw [List.length_map, mix_len]
theorem mix_row {p : PostD} {f : Nat → OrdD → OrdD} {k i : Nat} (h : i < p.ords.length) : ((mixF p f k).ords.map ordRow).getD i [] = ordRow (oAt (mixF p f k) i) := by
  have : i < (mixF p f k).ords.length := by rw [mix_len]; exact h
  show ((mixF p f k).ords.map ordRow).getD i [] = ordRow ((mixF p f k).ords.getD i default)
  simp [List.getD_eq_getElem?_getD, this]
theorem mix_row0 {p : PostD} {f : Nat → OrdD → OrdD} {k : Nat} (h : k < p.ords.length) : ((mixF p f k).ords.map ordRow).getD k [] = ordRow (oAt p k) := by
  rw [mix_row h, mix_at h, if_neg (Nat.lt_irrefl k)]
theorem mix_set {p : PostD} {f : Nat → OrdD → OrdD} {k : Nat} (h : k < p.ords.length) {r : List AV} (hr : r = ordRow (f k (oAt p k))) : ((mixF p f k).ords.map ordRow).set k r = (mixF p f (k + 1)).ords.map ordRow := by
  subst hr
  refine List.ext_getElem (by simp [mix_len]) fun i h1 h2 => ?_
  have hi : i < p.ords.length := by simpa [mix_len] using h1
  have e1 : ∀ j (l1 : i < ((mixF p f j).ords.map ordRow).length), ((mixF p f j).ords.map ordRow)[i] = ordRow (oAt (mixF p f j) i) := fun j l1 => by
    have l2 : i < (mixF p f j).ords.length := by rw [mix_len]; exact hi
    rw [List.getElem_map]
    show ordRow _ = ordRow ((mixF p f j).ords.getD i default)
    rw [List.getD_eq_getElem?_getD, List.getElem?_eq_getElem l2]
    rfl
  rw [List.getElem_set, e1 (k + 1) h2, mix_at hi]
  by_cases c : k = i
  · subst c
    rw [if_pos rfl, if_pos (Nat.lt_succ_self k)]
  · rw [if_neg c, e1 k (by rw [mix_rows]; exact hi), mix_at hi]
    by_cases d : i < k
    · rw [if_pos d, if_pos (by omega)]
    · rw [if_neg d, if_neg (by omega)]
theorem mix_tree (x : PostD) : ∀ k, k < x.ords.length → (x.ords.map ordRow).getD k [] = ((fun q => ordL (x.ords.getD q default)) k).map AV.ofTr := fun k hk => by
  have e : (x.ords.map ordRow).getD k [] = ordRow (x.ords.getD k default) := by simp [List.getD_eq_getElem?_getD, hk]
  rw [e]
  rfl
/-- a post whose orders are replaced by such with the same price and number, or turned ones, is valid -/
theorem valid_of {p x : PostD} (hv : VPost p) (hl : x.ords.length = p.ords.length) (h : ∀ i, i < p.ords.length → (1 ≤ (oAt x i).lim ∧ (oAt x i).lim ≤ 100) ∧ (1 ≤ (oAt x i).num ∧ (oAt x i).num ≤ 20) ∧ 0 ≤ (oAt x i).lo ∧ (oAt x i).lo ≤ (oAt x i).hi ∧ (oAt x i).hi ≤ 30) : faultN x = 0 := by
  have hlen := hv.len
  have hpos := hv.pos
  have hall : x.ords.all ordB = true := all_getD (d := default) |>.2 fun i hi => by
    have h1 := h i (by omega)
    unfold ordB
    have e : x.ords.getD i default = oAt x i := rfl
    rw [e, inB_iff.2 h1.1, inB_iff.2 h1.2.1, decide_eq_true h1.2.2.1, decide_eq_true h1.2.2.2.1, decide_eq_true h1.2.2.2.2]
    rfl
  unfold faultN
  rw [if_neg (by omega), if_pos ⟨by omega, hall⟩]
end Go.Proofs.Yteaoclpikdmkiaa
