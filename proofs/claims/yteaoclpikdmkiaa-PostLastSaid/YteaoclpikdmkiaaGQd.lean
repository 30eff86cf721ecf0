/- Joined texts: Qc, Qd. -/
import Derived.Test.YteaoclpikdmkiaaNr
section
namespace Go.Proofs.Yteaoclpikdmkiaa
open Go Go.RowKit Go.Tl
set_option linter.unusedVariables false
set_option linter.unusedSimpArgs false
/-- an order of another post that matches alike, or is turned -/
structure RelO (z : Bool) (o x : OrdD) : Prop where
  buy : x.buy = (z != o.buy)
  lim : x.lim = if z = true then 101 - o.lim else o.lim
  num : x.num = o.num
def turnS (z : Bool) (s : SaleD) : SaleD := if z = true then ⟨s.seller, s.buyer, s.num, 101 - s.price⟩ else s
theorem turnS_no (s : SaleD) : turnS false s = s := rfl
theorem turnS_yes (s : SaleD) : turnS true s = ⟨s.seller, s.buyer, s.num, 101 - s.price⟩ := rfl
theorem rel_refl (o x : OrdD) (h1 : x.buy = o.buy) (h2 : x.lim = o.lim) (h3 : x.num = o.num) : RelO false o x := ⟨by rw [h1]; cases o.buy <;> rfl, by rw [h2]; rfl, h3⟩
theorem rel_meets {z : Bool} {o x o' x' : OrdD} (h : RelO z o o') (h' : RelO z x x') : meetsB o' x' = meetsB o x := by
  rw [Bool.eq_iff_iff, meets_iff, meets_iff, h.buy, h'.buy, h.lim, h'.lim]
  cases z
  · cases o.buy <;> cases x.buy <;> simp
  · cases o.buy <;> cases x.buy <;> simp <;> omega
theorem rel_better {z : Bool} {o x o' x' : OrdD} (h : RelO z o o') (h' : RelO z x x') (hb : o.buy = x.buy) : betterB o' x' = betterB o x := by
  unfold betterB
  rw [h.buy, h.lim, h'.lim]
  cases z
  · cases o.buy <;> rfl
  · cases o.buy
    · show decide (101 - x.lim < 101 - o.lim) = decide (o.lim < x.lim)
      exact decide_eq_decide.2 (by omega)
    · show decide (101 - o.lim < 101 - x.lim) = decide (x.lim < o.lim)
      exact decide_eq_decide.2 (by omega)
/-- all the orders of some list are related -/
def RelP (z : Bool) (p x : PostD) (S : Nat → Prop) : Prop := ∀ i, S i → RelO z (oAt p i) (oAt x i)
theorem rest_buy {p : PostD} {left : Nat → Int} {o : OrdD} {came : List Int} {k : Nat} (h : 0 ≤ restN p left o came k) : (oAt p (restN p left o came k).toNat).buy = !o.buy := by
  rcases meets_iff.1 (rest_meets k h) with ⟨h1, h2, _⟩ | ⟨h1, h2, _⟩
  · rw [h1, h2]; rfl
  · rw [h1, h2]; rfl
theorem rel_rest {z : Bool} {p x : PostD} {left : Nat → Int} {o o' : OrdD} {came : List Int} (hc : ∀ y ∈ came, 0 ≤ y) (ho : RelO z o o') (hr : ∀ i : Nat, (i : Int) ∈ came → RelO z (oAt p i) (oAt x i)) : ∀ k, k ≤ came.length → restN x left o' came k = restN p left o came k
  | 0, _ => rfl
  | k + 1, hk => by
    have ih := rel_rest (left := left) hc ho hr k (by omega)
    have hm := getD_mem (d := (0 : Int)) (show k < came.length by omega)
    have hk0 := hc _ hm
    have hrk := hr (came.getD k 0).toNat (by rw [Int.toNat_of_nonneg hk0]; exact hm)
    simp only [restN]
    rw [ih, rel_meets ho hrk]
    cases e1 : meetsB o (oAt p (came.getD k 0).toNat)
    · simp
    · by_cases e2 : restN p left o came k < 0
      · rw [decide_eq_true e2]; simp
      · have e3 : 0 ≤ restN p left o came k := by omega
        have hbm := rest_mem (p := p) (left := left) (o := o) (came := came) k (by omega)
        have hb := hr (restN p left o came k).toNat (by rw [Int.toNat_of_nonneg e3]; exact (hbm.resolve_left (by omega)).1)
        have hbuy := rest_buy e3
        have hk2 : (oAt p (came.getD k 0).toNat).buy = !o.buy := by
          rcases meets_iff.1 e1 with ⟨h1, h2, _⟩ | ⟨h1, h2, _⟩
          · rw [h1, h2]; rfl
          · rw [h1, h2]; rfl
        rw [rel_better hrk hb (by rw [hk2, hbuy])]
theorem rel_sale {z : Bool} {p x : PostD} {o o' : OrdD} {i k : Nat} {n : Int} (ho : RelO z o o') (hk : RelO z (oAt p k) (oAt x k)) : saleN x o' i k n = turnS z (saleN p o i k n) := by
  unfold saleN
  rw [ho.buy, hk.lim]
  cases z
  · cases o.buy <;> rfl
  · cases o.buy <;> rfl
theorem rel_match {z : Bool} {p x : PostD} {o o' : OrdD} {i : Nat} {came : List Int} (hc : ∀ y ∈ came, 0 ≤ y) (ho : RelO z o o') (hr : ∀ i : Nat, (i : Int) ∈ came → RelO z (oAt p i) (oAt x i)) : ∀ (f : Nat) (s : (Nat → Int) × List SaleD), matchN x o' i came f (s.1, s.2.map (turnS z)) = ((matchN p o i came f s).1, (matchN p o i came f s).2.map (turnS z))
  | 0, s => rfl
  | f + 1, s => by
    simp only [matchN]
    rw [rel_rest hc ho hr came.length (Nat.le_refl _)]
    by_cases h1 : 0 < s.1 i
    · rw [if_pos h1, if_pos h1]
      by_cases h2 : restN p s.1 o came came.length < 0
      · rw [if_pos h2, if_pos h2]
      · rw [if_neg h2, if_neg h2]
        have hbm := rest_mem (p := p) (left := s.1) (o := o) (came := came) came.length (Nat.le_refl _)
        have hb := hr (restN p s.1 o came came.length).toNat (by rw [Int.toNat_of_nonneg (by omega)]; exact (hbm.resolve_left (by omega)).1)
        rw [rel_sale ho hb, ← rel_match hc ho hr f, List.map_append]
        rfl
    · rw [if_neg h1, if_neg h1]
theorem rel_come {z : Bool} {p x : PostD} {F G : FloD} {i : Nat} (hc : ∀ y ∈ F.came, 0 ≤ y) (ho : RelO z (oAt p i) (oAt x i)) (hr : ∀ i : Nat, (i : Int) ∈ F.came → RelO z (oAt p i) (oAt x i)) (h1 : G.left = F.left) (h2 : G.came = F.came) (h3 : G.log = F.log.map (turnS z)) :
    (comeN x G i).left = (comeN p F i).left ∧ (comeN x G i).came = (comeN p F i).came ∧ (comeN x G i).log = (comeN p F i).log.map (turnS z) := by
  have hm := rel_match (i := i) hc ho hr 20 (fun q => if q = i then (oAt p i).num else F.left q, F.log)
  unfold comeN
  rw [h1, h2, h3, ho.num, hm]
  exact ⟨rfl, rfl, rfl⟩
theorem rel_run {z : Bool} {p x : PostD} : ∀ l : List Nat, (∀ i ∈ l, RelO z (oAt p i) (oAt x i)) → (runN x l).left = (runN p l).left ∧ (runN x l).came = (runN p l).came ∧ (runN x l).log = (runN p l).log.map (turnS z) := fun l => by
  have key : ∀ r : List Nat, (∀ i ∈ r.reverse, RelO z (oAt p i) (oAt x i)) → (runN x r.reverse).left = (runN p r.reverse).left ∧ (runN x r.reverse).came = (runN p r.reverse).came ∧ (runN x r.reverse).log = (runN p r.reverse).log.map (turnS z) := fun r => by
    induction r with
    | nil => intro _; exact ⟨rfl, rfl, rfl⟩
    | cons i r ih =>
      intro h
      rw [List.reverse_cons] at h ⊢
      rw [run_snoc, run_snoc]
      obtain ⟨h1, h2, h3⟩ := ih fun j hj => h j (List.mem_append_left _ hj)
      refine rel_come ?_ (h i (by simp)) ?_ h1 h2 h3
      · rw [run_came]
        intro y hy
        obtain ⟨j, _, rfl⟩ := List.mem_map.1 hy
        exact Int.natCast_nonneg j
      · rw [run_came]
        intro j hj
        obtain ⟨j', hj', e⟩ := List.mem_map.1 hj
        have e' : (j' : Int) = (j : Int) := e
        obtain rfl : j' = j := by omega
        exact h j' (List.mem_append_left _ hj')
  have := key l.reverse
  rwa [List.reverse_reverse] at this
theorem rel_play {z : Bool} {p x : PostD} {t : List Int} (h : ∀ i, i < t.length → RelO z (oAt p i) (oAt x i)) : playT x t = (playT p t).map (turnS z) :=
  (rel_run (comesN t) fun i hi => h i (comes_mem.1 hi).1).2.2
theorem map_turn_no (l : List SaleD) : l.map (turnS false) = l := by
  conv => rhs; rw [← List.map_id l]
  exact List.map_congr_left fun s _ => rfl
/-- posts whose orders match alike -/
theorem same_play {p x : PostD} {t : List Int} (h : ∀ i, i < t.length → (oAt x i).buy = (oAt p i).buy ∧ (oAt x i).lim = (oAt p i).lim ∧ (oAt x i).num = (oAt p i).num) : playT x t = playT p t := by
  rw [rel_play (z := false) fun i hi => rel_refl _ _ (h i hi).1 (h i hi).2.1 (h i hi).2.2, map_turn_no]
end Go.Proofs.Yteaoclpikdmkiaa
end
section
namespace Go.Tl
open Go Go.RowKit
theorem pv_nilCheck_rp {P : Program} {o : Oper} {s : Slots} {x : Operand} {v : Value} {sz k off : Nat} (ho : o.op = .nilCheck x) (hx : evA s x = some (.rp v sz k off)) : PV P o s (.rp v sz k off) := fun w S a hs => by
  have h := hs.eval hx
  generalize hev : a.eval x = u at *
  cases h with
  | rp => exact ⟨_, fun w' => by simp [execOp, ho, hev], .rp⟩
end Go.Tl
namespace Go.Proofs.Yteaoclpikdmkiaa
open Go Go.RowKit Go.Tl
set_option linter.unusedVariables false
set_option linter.unusedSimpArgs false
theorem ordsT_le {cp : Bool} (os : List OrdD) : TrLe (ordsT cp os) (ordsT false os) := .sl (fun h => by cases h) (fun k hk => ⟨rfl, fun j x x' h1 h2 => by rw [h1] at h2; cases h2; exact .refl _⟩)
theorem postA_le {cp : Bool} (p : PostD) : AVLe (postA cp p) (postA false p) := .ag (.cons (.t (ordsT_le _)) .nil)
theorem post_w (cp : Bool) (p : PostD) (hl : p.ords.length ≤ 1000) : PCall Try.prog 20 [postA cp p] (fun r => r = postA true p) := pcall_weak (post_p p hl) (.cons (postA_le _) .nil)
theorem ordOne (os : List OrdD) : ∀ k, k < os.length → ∀ u ∈ ordL (os.getD k default), oneA (AV.ofTr u) = true := fun k hk u hu => by
  simp only [ordL, List.mem_cons, List.not_mem_nil, or_false] at hu
  rcases hu with rfl | rfl | rfl | rfl | rfl <;> rfl
theorem ordRows_range (l : List OrdD) : ((List.range l.length).map fun k => (ordL (l.getD k default)).map AV.ofTr) = l.map ordRow := by
  refine List.ext_getElem (by simp) fun k h1 h2 => ?_
  simp at h1 h2
  simp [List.getD_eq_getElem?_getD, h1, ordL, ordRow, AV.ofTr]
/-- a post whose first orders are replaced -/
def mixF (p : PostD) (f : Nat → OrdD → OrdD) (k : Nat) : PostD := ⟨(List.range p.ords.length).map fun i => if i < k then f i (oAt p i) else oAt p i⟩
theorem mix_len (p : PostD) (f : Nat → OrdD → OrdD) (k : Nat) : (mixF p f k).ords.length = p.ords.length := by simp [mixF]
theorem mix_at {p : PostD} {f : Nat → OrdD → OrdD} {k i : Nat} (h : i < p.ords.length) : oAt (mixF p f k) i = if i < k then f i (oAt p i) else oAt p i := by
  show ((List.range p.ords.length).map fun i => if i < k then f i (oAt p i) else oAt p i).getD i default = _
  simp [List.getD_eq_getElem?_getD, h]
theorem mix_zero (p : PostD) (f : Nat → OrdD → OrdD) : (mixF p f 0).ords = p.ords := by
  refine List.ext_getElem (mix_len p f 0) fun i h1 h2 => ?_
  have := mix_at (f := f) (k := 0) h2
  rw [if_neg (Nat.not_lt_zero _)] at this
  simpa [List.getD_eq_getElem?_getD, h1, h2] using this
theorem mix_rows (p : PostD) (f : Nat → OrdD → OrdD) (k : Nat) : ((mixF p f k).ords.map ordRow).length = p.ords.length := by rw [List.length_map, mix_len]
theorem mix_row {p : PostD} {f : Nat → OrdD → OrdD} {k i : Nat} (h : i < p.ords.length) : ((mixF p f k).ords.map ordRow).getD i [] = ordRow (oAt (mixF p f k) i) := by
  have : i < (mixF p f k).ords.length := by rw [mix_len]; exact h
  show ((mixF p f k).ords.map ordRow).getD i [] = ordRow ((mixF p f k).ords.getD i default)
  simp [List.getD_eq_getElem?_getD, this]
theorem mix_row0 {p : PostD} {f : Nat → OrdD → OrdD} {k : Nat} (h : k < p.ords.length) : ((mixF p f k).ords.map ordRow).getD k [] = ordRow (oAt p k) := by
  rw [mix_row h, mix_at h, if_neg (Nat.lt_irrefl k)]
theorem mix_set {p : PostD} {f : Nat → OrdD → OrdD} {k : Nat} (h : k < p.ords.length) {r : List AV} (hr : r = ordRow (f k (oAt p k))) : ((mixF p f k).ords.map ordRow).set k r = (mixF p f (k + 1)).ords.map ordRow := by
  subst hr
  refine List.ext_getElem (by simp [mix_len]) fun i h1 h2 => ?_
  have hi : i < p.ords.length := by simpa [mix_len] using h1
  have e1 : ∀ j (l1 : i < ((mixF p f j).ords.map ordRow).length), ((mixF p f j).ords.map ordRow)[i] = ordRow (oAt (mixF p f j) i) := fun j l1 => by
    have l2 : i < (mixF p f j).ords.length := by rw [mix_len]; exact hi
    rw [List.getElem_map]
    show ordRow _ = ordRow ((mixF p f j).ords.getD i default)
    rw [List.getD_eq_getElem?_getD, List.getElem?_eq_getElem l2]
    rfl
  rw [List.getElem_set, e1 (k + 1) h2, mix_at hi]
  by_cases c : k = i
  · subst c
    rw [if_pos rfl, if_pos (Nat.lt_succ_self k)]
  · rw [if_neg c, e1 k (by rw [mix_rows]; exact hi), mix_at hi]
    by_cases d : i < k
    · rw [if_pos d, if_pos (by omega)]
    · rw [if_neg d, if_neg (by omega)]
theorem mix_tree (x : PostD) : ∀ k, k < x.ords.length → (x.ords.map ordRow).getD k [] = ((fun q => ordL (x.ords.getD q default)) k).map AV.ofTr := fun k hk => by
  have e : (x.ords.map ordRow).getD k [] = ordRow (x.ords.getD k default) := by simp [List.getD_eq_getElem?_getD, hk]
  rw [e]
  rfl
/-- a post whose orders are replaced by such with the same price and number, or turned ones, is valid -/
theorem valid_of {p x : PostD} (hv : VPost p) (hl : x.ords.length = p.ords.length) (h : ∀ i, i < p.ords.length → (1 ≤ (oAt x i).lim ∧ (oAt x i).lim ≤ 100) ∧ (1 ≤ (oAt x i).num ∧ (oAt x i).num ≤ 20) ∧ 0 ≤ (oAt x i).lo ∧ (oAt x i).lo ≤ (oAt x i).hi ∧ (oAt x i).hi ≤ 30) : faultN x = 0 := by
  have hlen := hv.len
  have hpos := hv.pos
  have hall : x.ords.all ordB = true := all_getD (d := default) |>.2 fun i hi => by
    have h1 := h i (by omega)
    unfold ordB
    have e : x.ords.getD i default = oAt x i := rfl
    rw [e, inB_iff.2 h1.1, inB_iff.2 h1.2.1, decide_eq_true h1.2.2.1, decide_eq_true h1.2.2.2.1, decide_eq_true h1.2.2.2.2]
    rfl
  unfold faultN
  rw [if_neg (by omega), if_pos ⟨by omega, hall⟩]
end Go.Proofs.Yteaoclpikdmkiaa
end
